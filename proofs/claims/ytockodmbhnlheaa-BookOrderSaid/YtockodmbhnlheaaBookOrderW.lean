/-
  THE WALK of the law BookOrder.
-/
import Derived.Test.YtockodmbhnlheaaBookBackW
import Derived.Test.YtockodmbhnlheaaAt
namespace Go.Proofs.Ytockodmbhnlheaa
open Go.RowKit

/-- the round: what is left to come, the book so far. -/
structure Ord (w wr : World) (B1 : Array Value) (base gx total : Nat) (b : Bk) (v5 : Value) (i : Nat) (L : List Od) (x : Bk) (A A' : Option Addr) (c c' : Nat) : Prop where
  bel : Below w.heap.size w wr
  one : Blk wr w.heap.size 62 B1
  row : wr.ownsRow base 71 5 v5 L.length (odCells L)
  blk : Blk wr gx 62 #[.slice A x.bids.length c, .slice A' x.asks.length c']
  ne : v5.ownBlock ≠ some gx
  bk : OBk wr (gx + 1) A A' c c' x
  come : Coming b x L
  cnt : i + L.length = total
theorem Ord.below {w wr w1 : World} {B1 : Array Value} {base gx total : Nat} {b : Bk} {v5 : Value} {i : Nat} {L : List Od} {x : Bk} {A A' : Option Addr} {c c' : Nat} (h : Ord w wr B1 base gx total b v5 i L x A A' c c') (hb : Below wr.heap.size wr w1) : Ord w w1 B1 base gx total b v5 i L x A A' c c' :=
  ⟨h.bel.trans (hb.mono h.bel.size), h.one.below hb h.one.lt, own_below h.row hb (Nat.le_refl _), h.blk.below hb h.blk.lt, h.ne, h.bk.below hb (Nat.le_refl _), h.come, h.cnt⟩
theorem split_at {L : List Od} {k : Nat} {o : Od} (h : L[k]? = some o) : L = L.take k ++ o :: L.drop (k + 1) := by
  obtain ⟨h1, h2⟩ := List.getElem?_eq_some_iff.1 h
  rw [← h2, ← List.drop_eq_getElem_cons h1, List.take_append_drop]

theorem delete_od0 (base : Nat) (v : Value) (n : Nat) (L : List Od) (w : World) (hown : w.ownsRow base 71 5 v n (odCells L)) (hb : base ≤ w.heap.size) (hi : 0 < n) :
    Calls Try.prog 65 #[v, .int .i64 0, .int .i64 1] w fun e w' => ∃ v', e = .returned v' ∧ w'.ownsRow base 71 5 v' (n - 1) (odCells (L.eraseIdx 0)) ∧ v'.ownBlock = v.ownBlock ∧ Below base w w' ∧ Only w w' v.ownBlock :=
  delete_od base v n 0 L w hown hb hi
theorem OBk.mono {w : World} {base base' : Nat} {A A' : Option Addr} {c c' : Nat} {b : Bk} (h : OBk w base A A' c c' b) (hb : base' ≤ base) : OBk w base' A A' c c' b := ⟨own_mono h.l hb, own_mono h.r hb⟩
theorem rest_ref {x' : Bk} {e' : Int} (b : Bk) (o : Od) (A A' : Option Addr) (c c' B : Nat) (w : World) (hr : restOf b o = (x', e')) (h : BkR w B A A' c c' b) (hB : B ≤ w.heap.size) (hl : b.bids.length ≤ 4000000000000) (hl' : b.asks.length ≤ 4000000000000) :
    Calls Try.prog 64 #[.agg #[.slice A b.bids.length c, .slice A' b.asks.length c'], .agg #[.int .i64 o.id, .int .i64 o.acc, .int .i64 o.side, .int .i64 o.price, .int .i64 o.qty]] w (RetRest w (x', e')) := by
  rw [← hr]; exact rest_bk b o A A' c c' B w h hB hl hl'
set_option maxHeartbeats 4000000 in
set_option maxRecDepth 100000 in
theorem bookOrder_walk (b : Bk) (A A' : Option Addr) (c c' : Nat) (A2 : Option Addr) (n2 c2 : Nat) (picks : List Int) (w : World) (h0 : Rd w w.heap.size 5 A b.bids.length c (odCells b.bids)) (h0' : Rd w w.heap.size 5 A' b.asks.length c' (odCells b.asks)) (s : c * 40 ≤ reachBytes) (s' : c' * 40 ≤ reachBytes)
    (hp : Rd w w.heap.size 1 A2 n2 c2 (ints picks)) :
    Calls Try.prog 14 #[.agg #[.slice A b.bids.length c, .slice A' b.asks.length c'], .slice A2 n2 c2] w fun e w' => e = .returned (.bool true) ∧ Below w.heap.size w w' := by
  have h : BkR w w.heap.size A A' c c' b := ⟨h0, h0'⟩
  have hl : b.bids.length ≤ 4000000000000 := by have := h0.le; have : reachBytes = 140737488351232 := rfl; omega
  have hl' : b.asks.length ≤ 4000000000000 := by have := h0'.le; have : reachBytes = 140737488351232 := rfl; omega
  have hn2 := hp.le
  have hc2 := hp.cap
  have HP2 := Lib.hid hp
  unfold maxLen at hc2
  clear h0 h0' s s' hp
  go_enter Try.func14, Try.ntmps14
  go_wp2_with fail
  refine calls_name ?_
  intro w2 hw2
  have hb2 : Below w.heap.size w w2 := by rw [hw2]; exact (Below.refl _ _).alloc (Nat.le_refl _) _
  have hs2 : w2.heap.size = w.heap.size + 1 := by rw [hw2]; simp
  have X1 : Blk w2 w.heap.size 62 #[.slice A b.bids.length c, .slice A' b.asks.length c'] := by rw [hw2]; exact Blk.new w _ _
  clear hw2
  refine (shelved_any w2).mono ?_
  rintro e w3 ⟨rfl, hb3⟩
  have hs3 := hb3.size
  obtain ⟨⟨kX10, kX11⟩, -⟩ := X1.c2
  clear kX10 kX11
  replace X1 := X1.below hb3 X1.lt
  obtain ⟨⟨kX10, kX11⟩, -⟩ := X1.c2
  replace hb2 := hb2.trans (hb3.mono (by omega))
  clear hb3
  have hr3 := h.below hb2
  go_wp2_with fail
  refine (bookCheck_any b A A' c c' w.heap.size w3 hr3.l hr3.r (by omega) hl hl').mono ?_
  rintro e w4 ⟨rfl, hb4⟩
  have hs4 := hb4.size
  clear kX10 kX11
  replace X1 := X1.below hb4 X1.lt
  obtain ⟨⟨kX10, kX11⟩, -⟩ := X1.c2
  replace hb2 := hb2.trans (hb4.mono (by omega))
  clear hb4 hr3
  have hr4 := h.below hb2
  by_cases he : bookErr b = 0
  rotate_left
  · have he' : (bookErr b != 0) = true := by simpa using he
    clear he
    go_wp2_with fail
    refine (shelved_any w4).mono ?_
    rintro e w5 ⟨rfl, hb5⟩
    go_wp2_with fail
    go_ret
    exact ⟨rfl, hb2.trans (hb5.mono (by omega))⟩
  · have HBK := Lib.hid (bookErr_ok.1 he)
    have hlen := HBK.out.len
    rw [he]
    clear he
    go_wp2_with fail
    refine calls_name ?_
    intro w5 hw5
    have hb5 : Below w4.heap.size w4 w5 := by rw [hw5]; exact (Below.refl _ _).alloc (Nat.le_refl _) _
    have hs5 : w5.heap.size = w4.heap.size + 1 := by rw [hw5]; simp
    have X3 : Blk w5 w4.heap.size 60 #[.slice A b.bids.length c, .slice A' b.asks.length c'] := by rw [hw5]; exact Blk.new w4 _ _
    replace hr4 := hr4.below (hb5.mono (by omega))
    clear kX10 kX11
    replace X1 := X1.below hb5 X1.lt
    obtain ⟨⟨kX10, kX11⟩, -⟩ := X1.c2
    replace hb2 := hb2.trans (hb5.mono (by omega))
    clear hw5 hb5
    refine (concat_ods A A' b.bids.length c b.asks.length c' b.bids b.asks w.heap.size w5 hr4.l hr4.r (by omega) w4.heap.size (by omega) X3.c2.1.1 X3.c2.1.2 (by omega)).mono ?_
    rintro e w6 ⟨v, rfl, hown, hb6⟩
    have hs6 := hb6.size
    replace X1 := X1.below hb6 X1.lt
    replace hb2 := hb2.trans (hb6.mono (by omega))
    clear hb6 hr4 kX10 kX11 X3
    obtain ⟨A5, c5, rfl⟩ := own_shape hown
    have hle5 := (Rd.of_own hown).le
    have hcap5 := (Rd.of_own hown).cap
    have HROW := Lib.hid hown
    have HB2 := Lib.hid hb2
    have HX1 := Lib.hid X1
    clear hown hb2 X1
    go_wp2_with fail
    obtain ⟨total, htot⟩ : ∃ t, t = b.bids.length + b.asks.length := ⟨_, rfl⟩
    rw [← htot] at hle5
    have HTOT := Lib.hid htot
    have htl : total ≤ 40 := by omega
    rw [← htot]
    clear htot hlen
    go_loopw [5, 7] (fun v5 i wr => ∃ (j : Nat) (L : List Od) (x : Bk) (P P' : Option Addr) (p p' : Nat), i = .int .i64 j ∧ L.length ≤ 40 ∧ Hid (Ord w wr #[.slice A b.bids.length c, .slice A' b.asks.length c'] w.heap.size w6.heap.size total b v5 j L x P P' p p')) (fun v5 i _ => total - (intOf i).toNat)
    case atStart =>
      refine ⟨0, b.bids ++ b.asks, zeroBk, none, none, 0, 0, rfl, ?_, Lib.hid ⟨HB2.out.alloc (by omega) _, HX1.out.alloc _, ?_, Blk.new w6 _ _, ?_, ?_, coming_start HBK.out, ?_⟩⟩
      · rw [List.length_append, ← HTOT.out]; exact htl
      · rw [List.length_append, ← HTOT.out]
        have := HROW.out
        rw [← HTOT.out] at this
        exact own_mono (World.ownsRow.alloc this _) (by omega)
      · intro e
        have := (World.ownsRow.lt HROW.out w6.heap.size (by rw [← HTOT.out]; exact e)).2
        omega
      · exact ⟨World.ownsRow_nil _ _ _ _, World.ownsRow_nil _ _ _ _⟩
      · rw [List.length_append, ← HTOT.out]; omega
    case round =>
      obtain ⟨j, L, x, P, P', p, p', rfl, hL40, HO⟩ := hrel
      obtain ⟨AL, cL, rfl⟩ := own_shape HO.out.row
      have hws := HO.out.bel.size
      have hcnt := HO.out.cnt
      have hlL := (Rd.of_own HO.out.row).le
      have hlC := (Rd.of_own HO.out.row).cap
      unfold maxLen at hlC
      rcases list_cases L with hL | ⟨y, M, hL⟩
      · subst hL
        obtain rfl := coming_end HO.out.come
        have HSM := Lib.hid (sameBk_self x)
        have X1 := HO.out.one
        have X6 := HO.out.blk
        have hbk := HO.out.bk
        have hbl := HO.out.bel
        clear HO
        obtain ⟨⟨kX10, kX11⟩, -⟩ := X1.c2
        obtain ⟨⟨kX60, kX61⟩, -⟩ := X6.c2
        have hi1 : ¬ (0 : Int) < ((([] : List Od).length : Nat) : Int) := by simp
        simp only [List.length_nil] at hi1 hlL hcnt
        go_wp2_with fail
        refine (same_bk x x P P' A A' p p' c c' wr.heap.size wr hbk.read ((h.below hbl).up (by omega)) (Nat.le_refl _)).mono ?_
        rw [HSM.out]
        rintro e w7 ⟨rfl, hb7⟩
        go_wp2_with fail
        go_ret
        exact ⟨rfl, hbl.trans (hb7.mono (by omega))⟩
      · have hpos : 0 < L.length := by rw [hL]; simp
        clear hL
        have hi1 : (0 : Int) < (L.length : Int) := by omega
        by_cases hn0 : n2 = 0
        · subst hn0
          have hk : 0 < L.length := hpos
          obtain ⟨g1, o1, o, rfl, hg1, ho, l0, l1, l2, l3, l4⟩ := od_at (Rd.of_own HO.out.row) hk
          rw [Nat.zero_mul, Nat.add_zero] at l0 l1 l2 l3 l4
          obtain ⟨x', hrest, hcome⟩ := coming_step HO.out.come (split_at ho)
          have HRE := Lib.hid hrest
          have HCO := Lib.hid hcome
          have hll : (L.take 0 ++ L.drop (0 + 1)).length = L.length - 1 := by rw [List.length_append, List.length_take, List.length_drop]; omega
          have HLL := Lib.hid hll
          have HBX := Lib.hid (book_lens HO.out.come.book)
          have X6 := HO.out.blk
          have KS : Hid (∀ W, Below wr.heap.size wr W → Below wr.heap.size wr W ∧ (W.cell? ⟨w6.heap.size, 0, none⟩ = some (.slice P x.bids.length p) ∧ W.cell? ⟨w6.heap.size, 1, none⟩ = some (.slice P' x.asks.length p')) ∧ (W.cell? ⟨g1, o1, none⟩ = some (.int .i64 o.id) ∧ W.cell? ⟨g1, o1 + 1, none⟩ = some (.int .i64 o.acc) ∧ W.cell? ⟨g1, o1 + 2, none⟩ = some (.int .i64 o.side) ∧ W.cell? ⟨g1, o1 + 3, none⟩ = some (.int .i64 o.price) ∧ W.cell? ⟨g1, o1 + 4, none⟩ = some (.int .i64 o.qty))) := by
            intro W hW
            obtain ⟨⟨a0, a1⟩, -⟩ := (X6.below hW X6.lt).c2
            have hc := fun q => (bcell hW).1 g1 q hg1
            exact ⟨hW, ⟨a0, a1⟩, (hc _).trans l0, (hc _).trans l1, (hc _).trans l2, (hc _).trans l3, (hc _).trans l4⟩
          have KA : Hid (∀ W ob, Below wr.heap.size wr W → Below wr.heap.size wr (W.alloc ob)) := fun W ob h => h.alloc h.size ob
          have KT : Hid (∀ W u u', Below wr.heap.size wr W → Below wr.heap.size wr ((W.setCell ⟨wr.heap.size, 0, none⟩ u).setCell ⟨wr.heap.size, 1, none⟩ u')) := fun W u u' h => (h.setCell (Nat.le_refl _) _).setCell (Nat.le_refl _) _
          have KN : Hid (∀ W', Below ((wr.alloc (.cells #[.slice none 0 0, .slice none 0 0] 62)).drew).heap.size ((wr.alloc (.cells #[.slice none 0 0, .slice none 0 0] 62)).drew) W' → ((W'.cell? ⟨wr.heap.size, 0, none⟩ = some (.slice none 0 0) ∧ W'.cell? ⟨wr.heap.size, 1, none⟩ = some (.slice none 0 0)) ∧ W'.frozen? ⟨wr.heap.size, 0, none⟩ = false ∧ W'.frozen? ⟨wr.heap.size, 1, none⟩ = false)) := fun W' hW => (((Blk.new wr 62 #[.slice none 0 0, .slice none 0 0]).drewN 1).below hW (Blk.lt ((Blk.new wr 62 #[.slice none 0 0, .slice none 0 0]).drewN 1))).c2
          have h22 : Below wr.heap.size wr wr := Below.refl _ _
          clear l0 l1 l2 l3 l4 ho hrest hcome hll X6
          go_wp2_with fail
          go_region_held3 (fun W => Below wr.heap.size wr W ∧ (W.cell? ⟨w6.heap.size, 0, none⟩ = some (.slice P x.bids.length p) ∧ W.cell? ⟨w6.heap.size, 1, none⟩ = some (.slice P' x.asks.length p')) ∧ (W.cell? ⟨g1, o1, none⟩ = some (.int .i64 o.id) ∧ W.cell? ⟨g1, o1 + 1, none⟩ = some (.int .i64 o.acc) ∧ W.cell? ⟨g1, o1 + 2, none⟩ = some (.int .i64 o.side) ∧ W.cell? ⟨g1, o1 + 3, none⟩ = some (.int .i64 o.price) ∧ W.cell? ⟨g1, o1 + 4, none⟩ = some (.int .i64 o.qty)))
            (first | (exact KS.out _ (by assumption)) | (exact KS.out _ (below_drew (by assumption))) | (exact KS.out _ (KA.out _ _ (by assumption))) | (exact KS.out _ (below_drew (KA.out _ _ (by assumption)))) | (exact KS.out _ (KT.out _ _ _ (by assumption))))
            ((first | (go_at_call 64; go_split_ands; (with_reducible refine (rest_ref x o P P' p p' wr.heap.size _ HRE.out (HO.out.bk.read.below (by assumption)) (Below.size (by assumption)) HBX.out.1 HBX.out.2).mono ?_); rintro e W' ⟨v, rfl, hown, hb⟩; obtain ⟨Q, q, Q', q', rfl, HQ⟩ := hown.obk; have hB2 := below_next (w0 := wr) hb (by first | assumption | exact below_drew (by assumption)); (try have hNB := KN.out _ hb); go_split_ands)))
          · obtain ⟨W2, hW2⟩ : ∃ W2, W2 = W'.alloc (.cells #[.slice Q x'.bids.length q, .slice Q' x'.asks.length q'] 62) := ⟨_, rfl⟩
            have hbW : Below wr.heap.size wr W2 := by rw [hW2]; exact hB2.alloc hB2.size _
            have N9 : Blk W2 W'.heap.size 62 #[.slice Q x'.bids.length q, .slice Q' x'.asks.length q'] := by rw [hW2]; exact Blk.new _ _ _
            have HQ2 : OBk W2 wr.heap.size Q Q' q q' x' := by rw [hW2]; exact (HQ.mono (Below.size (w := wr) (by assumption))).alloc _
            rw [← hW2]
            clear hW2
            have hx6 := HO.out.blk.lt
            have HO2 := Lib.hid (HO.out.below hbW)
            have hsW2 := hbW.size
            have hsB2 := hB2.size
            have hgn := N9.lt
            clear KS KA KT KN HO
            have X6 := HO2.out.blk
            have hne6 : w6.heap.size < W'.heap.size := by omega
            obtain ⟨⟨kX60, kX61⟩, fX60, fX61⟩ := X6.c2
            obtain ⟨⟨kN90, kN91⟩, -⟩ := N9.c2
            have hy1 : w6.heap.size < W2.heap.size := by omega
            go_wp2_with fail
            refine calls_name ?_
            intro W3 hW3
            have hs3' : W3.heap.size = W2.heap.size := by rw [hW3]; simp
            have Z6 : Blk W3 w6.heap.size 62 #[.slice Q x'.bids.length q, .slice Q' x'.asks.length q'] := by rw [hW3]; exact (X6.set_ 0 _).set_ 1 _
            have hown6 : Only W2 W3 (some w6.heap.size) := by rw [hW3]; exact only_set (only_set (only_refl _ _) rfl) rfl
            have Z1 : Blk W3 w.heap.size 62 #[.slice A b.bids.length c, .slice A' b.asks.length c'] := by rw [hW3]; exact (HO2.out.one.far (by simp; omega) _).far (by simp; omega) _
            have HQ3 : OBk W3 (w6.heap.size + 1) Q Q' q q' x' := by rw [hW3]; exact ((HQ2.set (by dsimp only; omega) _).set (by dsimp only; omega) _).mono (by omega)
            have hrow3 := own_only HO2.out.row hown6 (fun g h e => HO2.out.ne (by rw [h]; exact e.symm))
            have hb3 : Below w.heap.size w W3 := by rw [hW3]; exact (HO2.out.bel.setCell (by dsimp only; omega) _).setCell (by dsimp only; omega) _
            clear hW3 hown6 X6 kX60 kX61 fX60 fX61 N9 kN90 kN91 HQ2 hy1 hgn
            refine (clone_ods (some ⟨g1, o1, none⟩) L.length cL (odCells L) W3.heap.size W3 (Rd.of_own hrow3) (odCells_one _) (Nat.le_refl _) (by omega)).mono ?_
            rintro e W4 ⟨v, rfl, hown4, hb4⟩
            have hs4' := hb4.size
            have HO4 := Lib.hid hown4
            clear hown4 hrow3
            go_wp2_with fail
            refine (delete_od0 W3.heap.size v L.length   L W4 HO4.out hs4' hk).mono ?_
            rintro e W5 ⟨v5', rfl, hown5, hbk5, hb5, hon5⟩
            have hs5' := hb5.size
            have hlE : (L.eraseIdx 0).length = L.length - 1 := List.length_eraseIdx_of_lt hk
            have HN : Hid (Ord w W5 #[.slice A b.bids.length c, .slice A' b.asks.length c'] w.heap.size w6.heap.size total b v5' (j + 1) (L.eraseIdx 0) x' Q Q' q q') := by
              refine ⟨(hb3.trans (hb4.mono (by omega))).trans (hb5.mono (by omega)), (Z1.below hb4 Z1.lt).below hb5 (by omega), ?_, (Z6.below hb4 Z6.lt).below hb5 (by omega), ?_, ?_, ?_, by omega⟩
              · rw [hlE]; exact own_mono hown5 (by omega)
              · rw [hbk5]
                intro e
                have := (World.ownsRow.lt HO4.out _ e).1
                omega
              · have h4 := HQ3.below hb4 (Nat.le_refl _)
                exact ⟨own_only h4.l hon5 (fun g h e => by
                    have a1 := (World.ownsRow.lt HQ3.l g h).2
                    have a2 := (World.ownsRow.lt HO4.out g e).1
                    omega), own_only h4.r hon5 (fun g h e => by
                    have a1 := (World.ownsRow.lt HQ3.r g h).2
                    have a2 := (World.ownsRow.lt HO4.out g e).1
                    omega)⟩
              · rw [List.eraseIdx_eq_take_drop_succ]; exact HCO.out
            have HLE := Lib.hid hlE
            clear hown5 hbk5 hb5 hon5 hb4 Z1 Z6 HQ3 hb3 hlE HO4 HO2
            go_wp2_with fail
            go_roundw
            case rel => exact ⟨j + 1, L.eraseIdx 0, x', Q, Q', q, q', by go_num, by rw [HLE.out]; omega, HN⟩
            case measure => simp [intOf]; omega
          · obtain ⟨W2, hW2⟩ : ∃ W2, W2 = (W'.setCell ⟨wr.heap.size, 0, none⟩ (.slice Q x'.bids.length q)).setCell ⟨wr.heap.size, 1, none⟩ (.slice Q' x'.asks.length q') := ⟨_, rfl⟩
            have hsq : (wr.alloc (.cells #[.slice none 0 0, .slice none 0 0] 62)).drew.heap.size = wr.heap.size + 1 := by show (wr.alloc _).heap.size = _; simp
            have hsW := hb.size
            rw [hsq] at hsW
            have hbW : Below wr.heap.size wr W2 := by rw [hW2]; exact (hB2.setCell (Nat.le_refl _) _).setCell (Nat.le_refl _) _
            have N9 : Blk W2 wr.heap.size 62 #[.slice Q x'.bids.length q, .slice Q' x'.asks.length q'] := by rw [hW2]; exact ((((Blk.new wr 62 #[.slice none 0 0, .slice none 0 0]).drewN 1).below hb (by rw [hsq]; omega)).set_ 0 _).set_ 1 _
            have HQ2 : OBk W2 wr.heap.size Q Q' q q' x' := by rw [hW2]; exact ((HQ.set (by rw [hsq]; dsimp only; omega) _).set (by rw [hsq]; dsimp only; omega) _).mono (by rw [hsq]; omega)
            rw [← hW2]
            clear hW2 hsq hsW
            have hx6 := HO.out.blk.lt
            have HO2 := Lib.hid (HO.out.below hbW)
            have hsW2 := hbW.size
            have hsB2 := hB2.size
            have hgn := N9.lt
            clear KS KA KT KN HO
            have X6 := HO2.out.blk
            have hne6 : w6.heap.size < wr.heap.size := by omega
            obtain ⟨⟨kX60, kX61⟩, fX60, fX61⟩ := X6.c2
            obtain ⟨⟨kN90, kN91⟩, -⟩ := N9.c2
            have hy1 : w6.heap.size < W2.heap.size := by omega
            go_wp2_with fail
            refine calls_name ?_
            intro W3 hW3
            have hs3' : W3.heap.size = W2.heap.size := by rw [hW3]; simp
            have Z6 : Blk W3 w6.heap.size 62 #[.slice Q x'.bids.length q, .slice Q' x'.asks.length q'] := by rw [hW3]; exact (X6.set_ 0 _).set_ 1 _
            have hown6 : Only W2 W3 (some w6.heap.size) := by rw [hW3]; exact only_set (only_set (only_refl _ _) rfl) rfl
            have Z1 : Blk W3 w.heap.size 62 #[.slice A b.bids.length c, .slice A' b.asks.length c'] := by rw [hW3]; exact (HO2.out.one.far (by simp; omega) _).far (by simp; omega) _
            have HQ3 : OBk W3 (w6.heap.size + 1) Q Q' q q' x' := by rw [hW3]; exact ((HQ2.set (by dsimp only; omega) _).set (by dsimp only; omega) _).mono (by omega)
            have hrow3 := own_only HO2.out.row hown6 (fun g h e => HO2.out.ne (by rw [h]; exact e.symm))
            have hb3 : Below w.heap.size w W3 := by rw [hW3]; exact (HO2.out.bel.setCell (by dsimp only; omega) _).setCell (by dsimp only; omega) _
            clear hW3 hown6 X6 kX60 kX61 fX60 fX61 N9 kN90 kN91 HQ2 hy1 hgn
            refine (clone_ods (some ⟨g1, o1, none⟩) L.length cL (odCells L) W3.heap.size W3 (Rd.of_own hrow3) (odCells_one _) (Nat.le_refl _) (by omega)).mono ?_
            rintro e W4 ⟨v, rfl, hown4, hb4⟩
            have hs4' := hb4.size
            have HO4 := Lib.hid hown4
            clear hown4 hrow3
            go_wp2_with fail
            refine (delete_od0 W3.heap.size v L.length   L W4 HO4.out hs4' hk).mono ?_
            rintro e W5 ⟨v5', rfl, hown5, hbk5, hb5, hon5⟩
            have hs5' := hb5.size
            have hlE : (L.eraseIdx 0).length = L.length - 1 := List.length_eraseIdx_of_lt hk
            have HN : Hid (Ord w W5 #[.slice A b.bids.length c, .slice A' b.asks.length c'] w.heap.size w6.heap.size total b v5' (j + 1) (L.eraseIdx 0) x' Q Q' q q') := by
              refine ⟨(hb3.trans (hb4.mono (by omega))).trans (hb5.mono (by omega)), (Z1.below hb4 Z1.lt).below hb5 (by omega), ?_, (Z6.below hb4 Z6.lt).below hb5 (by omega), ?_, ?_, ?_, by omega⟩
              · rw [hlE]; exact own_mono hown5 (by omega)
              · rw [hbk5]
                intro e
                have := (World.ownsRow.lt HO4.out _ e).1
                omega
              · have h4 := HQ3.below hb4 (Nat.le_refl _)
                exact ⟨own_only h4.l hon5 (fun g h e => by
                    have a1 := (World.ownsRow.lt HQ3.l g h).2
                    have a2 := (World.ownsRow.lt HO4.out g e).1
                    omega), own_only h4.r hon5 (fun g h e => by
                    have a1 := (World.ownsRow.lt HQ3.r g h).2
                    have a2 := (World.ownsRow.lt HO4.out g e).1
                    omega)⟩
              · rw [List.eraseIdx_eq_take_drop_succ]; exact HCO.out
            have HLE := Lib.hid hlE
            clear hown5 hbk5 hb5 hon5 hb4 Z1 Z6 HQ3 hb3 hlE HO4 HO2
            go_wp2_with fail
            go_roundw
            case rel => exact ⟨j + 1, L.eraseIdx 0, x', Q, Q', q, q', by go_num, by rw [HLE.out]; omega, HN⟩
            case measure => simp [intOf]; omega
        · have hn1 : 0 < n2 := by omega
          have hn1' : (0 : Int) < (n2 : Int) := by omega
          have hm1 : j % n2 < n2 := Nat.mod_lt _ hn1
          obtain ⟨pb, po, rfl, hpb, z, hz, kz⟩ := (HP2.out.below HO.out.bel).int hm1
          have x3 : pb < wr.heap.size := by omega
          clear hz
          go_wp2_with fail
          refine (atk_any z L.length wr (by omega) (by omega)).mono ?_
          rintro e w7 ⟨rfl, rfl⟩
          obtain ⟨k, hkz⟩ : ∃ k : Nat, z % (L.length : Int) = k := ⟨(z % (L.length : Int)).toNat, by have := Int.emod_nonneg z (show (L.length : Int) ≠ 0 by omega); omega⟩
          have hk : k < L.length := by have := Int.emod_lt_of_pos z hi1; omega
          rw [hkz]
          clear hkz kz x3
          obtain ⟨g1, o1, o, rfl, hg1, ho, l0, l1, l2, l3, l4⟩ := od_at (Rd.of_own HO.out.row) hk
          skip
          obtain ⟨x', hrest, hcome⟩ := coming_step HO.out.come (split_at ho)
          have HRE := Lib.hid hrest
          have HCO := Lib.hid hcome
          have hll : (L.take k ++ L.drop (k + 1)).length = L.length - 1 := by rw [List.length_append, List.length_take, List.length_drop]; omega
          have HLL := Lib.hid hll
          have HBX := Lib.hid (book_lens HO.out.come.book)
          have X6 := HO.out.blk
          have KS : Hid (∀ W, Below wr.heap.size wr W → Below wr.heap.size wr W ∧ (W.cell? ⟨w6.heap.size, 0, none⟩ = some (.slice P x.bids.length p) ∧ W.cell? ⟨w6.heap.size, 1, none⟩ = some (.slice P' x.asks.length p')) ∧ (W.cell? ⟨g1, o1 + k * 5, none⟩ = some (.int .i64 o.id) ∧ W.cell? ⟨g1, o1 + k * 5 + 1, none⟩ = some (.int .i64 o.acc) ∧ W.cell? ⟨g1, o1 + k * 5 + 2, none⟩ = some (.int .i64 o.side) ∧ W.cell? ⟨g1, o1 + k * 5 + 3, none⟩ = some (.int .i64 o.price) ∧ W.cell? ⟨g1, o1 + k * 5 + 4, none⟩ = some (.int .i64 o.qty))) := by
            intro W hW
            obtain ⟨⟨a0, a1⟩, -⟩ := (X6.below hW X6.lt).c2
            have hc := fun q => (bcell hW).1 g1 q hg1
            exact ⟨hW, ⟨a0, a1⟩, (hc _).trans l0, (hc _).trans l1, (hc _).trans l2, (hc _).trans l3, (hc _).trans l4⟩
          have KA : Hid (∀ W ob, Below wr.heap.size wr W → Below wr.heap.size wr (W.alloc ob)) := fun W ob h => h.alloc h.size ob
          have KT : Hid (∀ W u u', Below wr.heap.size wr W → Below wr.heap.size wr ((W.setCell ⟨wr.heap.size, 0, none⟩ u).setCell ⟨wr.heap.size, 1, none⟩ u')) := fun W u u' h => (h.setCell (Nat.le_refl _) _).setCell (Nat.le_refl _) _
          have KN : Hid (∀ W', Below ((wr.alloc (.cells #[.slice none 0 0, .slice none 0 0] 62)).drew).heap.size ((wr.alloc (.cells #[.slice none 0 0, .slice none 0 0] 62)).drew) W' → ((W'.cell? ⟨wr.heap.size, 0, none⟩ = some (.slice none 0 0) ∧ W'.cell? ⟨wr.heap.size, 1, none⟩ = some (.slice none 0 0)) ∧ W'.frozen? ⟨wr.heap.size, 0, none⟩ = false ∧ W'.frozen? ⟨wr.heap.size, 1, none⟩ = false)) := fun W' hW => (((Blk.new wr 62 #[.slice none 0 0, .slice none 0 0]).drewN 1).below hW (Blk.lt ((Blk.new wr 62 #[.slice none 0 0, .slice none 0 0]).drewN 1))).c2
          have h22 : Below wr.heap.size wr wr := Below.refl _ _
          clear l0 l1 l2 l3 l4 ho hrest hcome hll X6
          go_wp2_with fail
          go_region_held3 (fun W => Below wr.heap.size wr W ∧ (W.cell? ⟨w6.heap.size, 0, none⟩ = some (.slice P x.bids.length p) ∧ W.cell? ⟨w6.heap.size, 1, none⟩ = some (.slice P' x.asks.length p')) ∧ (W.cell? ⟨g1, o1 + k * 5, none⟩ = some (.int .i64 o.id) ∧ W.cell? ⟨g1, o1 + k * 5 + 1, none⟩ = some (.int .i64 o.acc) ∧ W.cell? ⟨g1, o1 + k * 5 + 2, none⟩ = some (.int .i64 o.side) ∧ W.cell? ⟨g1, o1 + k * 5 + 3, none⟩ = some (.int .i64 o.price) ∧ W.cell? ⟨g1, o1 + k * 5 + 4, none⟩ = some (.int .i64 o.qty)))
            (first | (exact KS.out _ (by assumption)) | (exact KS.out _ (below_drew (by assumption))) | (exact KS.out _ (KA.out _ _ (by assumption))) | (exact KS.out _ (below_drew (KA.out _ _ (by assumption)))) | (exact KS.out _ (KT.out _ _ _ (by assumption))))
            ((first | (go_at_call 64; go_split_ands; (with_reducible refine (rest_ref x o P P' p p' wr.heap.size _ HRE.out (HO.out.bk.read.below (by assumption)) (Below.size (by assumption)) HBX.out.1 HBX.out.2).mono ?_); rintro e W' ⟨v, rfl, hown, hb⟩; obtain ⟨Q, q, Q', q', rfl, HQ⟩ := hown.obk; have hB2 := below_next (w0 := wr) hb (by first | assumption | exact below_drew (by assumption)); (try have hNB := KN.out _ hb); go_split_ands)))
          · obtain ⟨W2, hW2⟩ : ∃ W2, W2 = W'.alloc (.cells #[.slice Q x'.bids.length q, .slice Q' x'.asks.length q'] 62) := ⟨_, rfl⟩
            have hbW : Below wr.heap.size wr W2 := by rw [hW2]; exact hB2.alloc hB2.size _
            have N9 : Blk W2 W'.heap.size 62 #[.slice Q x'.bids.length q, .slice Q' x'.asks.length q'] := by rw [hW2]; exact Blk.new _ _ _
            have HQ2 : OBk W2 wr.heap.size Q Q' q q' x' := by rw [hW2]; exact (HQ.mono (Below.size (w := wr) (by assumption))).alloc _
            rw [← hW2]
            clear hW2
            have hx6 := HO.out.blk.lt
            have HO2 := Lib.hid (HO.out.below hbW)
            have hsW2 := hbW.size
            have hsB2 := hB2.size
            have hgn := N9.lt
            clear KS KA KT KN HO
            have X6 := HO2.out.blk
            have hne6 : w6.heap.size < W'.heap.size := by omega
            obtain ⟨⟨kX60, kX61⟩, fX60, fX61⟩ := X6.c2
            obtain ⟨⟨kN90, kN91⟩, -⟩ := N9.c2
            have hy1 : w6.heap.size < W2.heap.size := by omega
            go_wp2_with fail
            refine calls_name ?_
            intro W3 hW3
            have hs3' : W3.heap.size = W2.heap.size := by rw [hW3]; simp
            have Z6 : Blk W3 w6.heap.size 62 #[.slice Q x'.bids.length q, .slice Q' x'.asks.length q'] := by rw [hW3]; exact (X6.set_ 0 _).set_ 1 _
            have hown6 : Only W2 W3 (some w6.heap.size) := by rw [hW3]; exact only_set (only_set (only_refl _ _) rfl) rfl
            have Z1 : Blk W3 w.heap.size 62 #[.slice A b.bids.length c, .slice A' b.asks.length c'] := by rw [hW3]; exact (HO2.out.one.far (by simp; omega) _).far (by simp; omega) _
            have HQ3 : OBk W3 (w6.heap.size + 1) Q Q' q q' x' := by rw [hW3]; exact ((HQ2.set (by dsimp only; omega) _).set (by dsimp only; omega) _).mono (by omega)
            have hrow3 := own_only HO2.out.row hown6 (fun g h e => HO2.out.ne (by rw [h]; exact e.symm))
            have hb3 : Below w.heap.size w W3 := by rw [hW3]; exact (HO2.out.bel.setCell (by dsimp only; omega) _).setCell (by dsimp only; omega) _
            clear hW3 hown6 X6 kX60 kX61 fX60 fX61 N9 kN90 kN91 HQ2 hy1 hgn
            refine (clone_ods (some ⟨g1, o1, none⟩) L.length cL (odCells L) W3.heap.size W3 (Rd.of_own hrow3) (odCells_one _) (Nat.le_refl _) (by omega)).mono ?_
            rintro e W4 ⟨v, rfl, hown4, hb4⟩
            have hs4' := hb4.size
            have HO4 := Lib.hid hown4
            clear hown4 hrow3
            go_wp2_with fail
            refine (delete_od W3.heap.size v L.length k L W4 HO4.out hs4' hk).mono ?_
            rintro e W5 ⟨v5', rfl, hown5, hbk5, hb5, hon5⟩
            have hs5' := hb5.size
            have hlE : (L.eraseIdx k).length = L.length - 1 := List.length_eraseIdx_of_lt hk
            have HN : Hid (Ord w W5 #[.slice A b.bids.length c, .slice A' b.asks.length c'] w.heap.size w6.heap.size total b v5' (j + 1) (L.eraseIdx k) x' Q Q' q q') := by
              refine ⟨(hb3.trans (hb4.mono (by omega))).trans (hb5.mono (by omega)), (Z1.below hb4 Z1.lt).below hb5 (by omega), ?_, (Z6.below hb4 Z6.lt).below hb5 (by omega), ?_, ?_, ?_, by omega⟩
              · rw [hlE]; exact own_mono hown5 (by omega)
              · rw [hbk5]
                intro e
                have := (World.ownsRow.lt HO4.out _ e).1
                omega
              · have h4 := HQ3.below hb4 (Nat.le_refl _)
                exact ⟨own_only h4.l hon5 (fun g h e => by
                    have a1 := (World.ownsRow.lt HQ3.l g h).2
                    have a2 := (World.ownsRow.lt HO4.out g e).1
                    omega), own_only h4.r hon5 (fun g h e => by
                    have a1 := (World.ownsRow.lt HQ3.r g h).2
                    have a2 := (World.ownsRow.lt HO4.out g e).1
                    omega)⟩
              · rw [List.eraseIdx_eq_take_drop_succ]; exact HCO.out
            have HLE := Lib.hid hlE
            clear hown5 hbk5 hb5 hon5 hb4 Z1 Z6 HQ3 hb3 hlE HO4 HO2
            go_wp2_with fail
            go_roundw
            case rel => exact ⟨j + 1, L.eraseIdx k, x', Q, Q', q, q', by go_num, by rw [HLE.out]; omega, HN⟩
            case measure => simp [intOf]; omega
          · obtain ⟨W2, hW2⟩ : ∃ W2, W2 = (W'.setCell ⟨wr.heap.size, 0, none⟩ (.slice Q x'.bids.length q)).setCell ⟨wr.heap.size, 1, none⟩ (.slice Q' x'.asks.length q') := ⟨_, rfl⟩
            have hsq : (wr.alloc (.cells #[.slice none 0 0, .slice none 0 0] 62)).drew.heap.size = wr.heap.size + 1 := by show (wr.alloc _).heap.size = _; simp
            have hsW := hb.size
            rw [hsq] at hsW
            have hbW : Below wr.heap.size wr W2 := by rw [hW2]; exact (hB2.setCell (Nat.le_refl _) _).setCell (Nat.le_refl _) _
            have N9 : Blk W2 wr.heap.size 62 #[.slice Q x'.bids.length q, .slice Q' x'.asks.length q'] := by rw [hW2]; exact ((((Blk.new wr 62 #[.slice none 0 0, .slice none 0 0]).drewN 1).below hb (by rw [hsq]; omega)).set_ 0 _).set_ 1 _
            have HQ2 : OBk W2 wr.heap.size Q Q' q q' x' := by rw [hW2]; exact ((HQ.set (by rw [hsq]; dsimp only; omega) _).set (by rw [hsq]; dsimp only; omega) _).mono (by rw [hsq]; omega)
            rw [← hW2]
            clear hW2 hsq hsW
            have hx6 := HO.out.blk.lt
            have HO2 := Lib.hid (HO.out.below hbW)
            have hsW2 := hbW.size
            have hsB2 := hB2.size
            have hgn := N9.lt
            clear KS KA KT KN HO
            have X6 := HO2.out.blk
            have hne6 : w6.heap.size < wr.heap.size := by omega
            obtain ⟨⟨kX60, kX61⟩, fX60, fX61⟩ := X6.c2
            obtain ⟨⟨kN90, kN91⟩, -⟩ := N9.c2
            have hy1 : w6.heap.size < W2.heap.size := by omega
            go_wp2_with fail
            refine calls_name ?_
            intro W3 hW3
            have hs3' : W3.heap.size = W2.heap.size := by rw [hW3]; simp
            have Z6 : Blk W3 w6.heap.size 62 #[.slice Q x'.bids.length q, .slice Q' x'.asks.length q'] := by rw [hW3]; exact (X6.set_ 0 _).set_ 1 _
            have hown6 : Only W2 W3 (some w6.heap.size) := by rw [hW3]; exact only_set (only_set (only_refl _ _) rfl) rfl
            have Z1 : Blk W3 w.heap.size 62 #[.slice A b.bids.length c, .slice A' b.asks.length c'] := by rw [hW3]; exact (HO2.out.one.far (by simp; omega) _).far (by simp; omega) _
            have HQ3 : OBk W3 (w6.heap.size + 1) Q Q' q q' x' := by rw [hW3]; exact ((HQ2.set (by dsimp only; omega) _).set (by dsimp only; omega) _).mono (by omega)
            have hrow3 := own_only HO2.out.row hown6 (fun g h e => HO2.out.ne (by rw [h]; exact e.symm))
            have hb3 : Below w.heap.size w W3 := by rw [hW3]; exact (HO2.out.bel.setCell (by dsimp only; omega) _).setCell (by dsimp only; omega) _
            clear hW3 hown6 X6 kX60 kX61 fX60 fX61 N9 kN90 kN91 HQ2 hy1 hgn
            refine (clone_ods (some ⟨g1, o1, none⟩) L.length cL (odCells L) W3.heap.size W3 (Rd.of_own hrow3) (odCells_one _) (Nat.le_refl _) (by omega)).mono ?_
            rintro e W4 ⟨v, rfl, hown4, hb4⟩
            have hs4' := hb4.size
            have HO4 := Lib.hid hown4
            clear hown4 hrow3
            go_wp2_with fail
            refine (delete_od W3.heap.size v L.length k L W4 HO4.out hs4' hk).mono ?_
            rintro e W5 ⟨v5', rfl, hown5, hbk5, hb5, hon5⟩
            have hs5' := hb5.size
            have hlE : (L.eraseIdx k).length = L.length - 1 := List.length_eraseIdx_of_lt hk
            have HN : Hid (Ord w W5 #[.slice A b.bids.length c, .slice A' b.asks.length c'] w.heap.size w6.heap.size total b v5' (j + 1) (L.eraseIdx k) x' Q Q' q q') := by
              refine ⟨(hb3.trans (hb4.mono (by omega))).trans (hb5.mono (by omega)), (Z1.below hb4 Z1.lt).below hb5 (by omega), ?_, (Z6.below hb4 Z6.lt).below hb5 (by omega), ?_, ?_, ?_, by omega⟩
              · rw [hlE]; exact own_mono hown5 (by omega)
              · rw [hbk5]
                intro e
                have := (World.ownsRow.lt HO4.out _ e).1
                omega
              · have h4 := HQ3.below hb4 (Nat.le_refl _)
                exact ⟨own_only h4.l hon5 (fun g h e => by
                    have a1 := (World.ownsRow.lt HQ3.l g h).2
                    have a2 := (World.ownsRow.lt HO4.out g e).1
                    omega), own_only h4.r hon5 (fun g h e => by
                    have a1 := (World.ownsRow.lt HQ3.r g h).2
                    have a2 := (World.ownsRow.lt HO4.out g e).1
                    omega)⟩
              · rw [List.eraseIdx_eq_take_drop_succ]; exact HCO.out
            have HLE := Lib.hid hlE
            clear hown5 hbk5 hb5 hon5 hb4 Z1 Z6 HQ3 hb3 hlE HO4 HO2
            go_wp2_with fail
            go_roundw
            case rel => exact ⟨j + 1, L.eraseIdx k, x', Q, Q', q, q', by go_num, by rw [HLE.out]; omega, HN⟩
            case measure => simp [intOf]; omega
end Go.Proofs.Ytockodmbhnlheaa
