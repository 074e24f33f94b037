/-
  THE WALK of the law RiskHolds.
-/
import Derived.Test.YtockodmbhnlheaaWeighed
import Derived.Deep.DeepCutAuto
namespace Go.Proofs.Ytockodmbhnlheaa
open Go.RowKit

theorem equity_ref (a : Ac) (A A' : Option Addr) (c n' c' : Nat) (marks : List Int) (B B' : Nat) (w : World) (r e : Int) (hr : equityOf a marks = (r, e)) (h : Rd w B 1 A a.pos.length c (ints a.pos)) (hB : B ≤ w.heap.size) (h' : Rd w B' 1 A' n' c' (ints marks)) (hB' : B' ≤ w.heap.size) :
    Calls Try.prog 43 #[.agg #[.int .i64 a.id, .int .i64 a.bal, .slice A a.pos.length c], .slice A' n' c'] w fun en w' => en = .returned (.tuple #[.int .i64 r, .int .i64 e]) ∧ Below w.heap.size w w' := by
  have := equity_any a A A' c n' c' marks B B' w h hB h' hB'
  rw [hr] at this; exact this


set_option maxRecDepth 100000 in
set_option maxHeartbeats 8000000 in
theorem riskHolds_core (m : Mk) (Ab Aa : Option Addr) (cb ca : Nat) (a : Ac) (A : Option Addr) (c : Nat) (A2 : Option Addr) (n2 c2 : Nat) (marks : List Int) (market : Int) (w : World)
    (hbk : Rd w w.heap.size 5 Ab m.book.bids.length cb (odCells m.book.bids)) (hak : Rd w w.heap.size 5 Aa m.book.asks.length ca (odCells m.book.asks)) (hl : m.book.bids.length ≤ 4000000000000) (hl' : m.book.asks.length ≤ 4000000000000)
    (ha : Rd w w.heap.size 1 A a.pos.length c (ints a.pos)) (hm : Rd w w.heap.size 1 A2 n2 c2 (ints marks)) :
    Calls Try.prog 13 #[.agg #[.slice Ab m.book.bids.length cb, .slice Aa m.book.asks.length ca, .int .i64 m.index, .int .i64 m.last], .agg #[.int .i64 a.id, .int .i64 a.bal, .slice A a.pos.length c], .slice A2 n2 c2, .int .i64 market] w fun e w' => e = .returned (.bool true) ∧ Below w.heap.size w w' := by
  obtain ⟨x, y, em, hx⟩ : ∃ x y em, marginsOf a marks = (x, y, em) := ⟨_, _, _, rfl⟩
  obtain ⟨b, d, es, hso⟩ : ∃ b d es, soundOf a marks = (b, d, es) := ⟨_, _, _, rfl⟩
  obtain ⟨p, ep, hp⟩ : ∃ p ep, bankruptOf a marks market = (p, ep) := ⟨_, _, rfl⟩
  obtain ⟨n, e1, hn⟩ : ∃ n e1, markOf m = (n, e1) := ⟨_, _, rfl⟩
  have HX := Lib.hid hx
  have HSO := Lib.hid hso
  have HP := Lib.hid hp
  have HN := Lib.hid hn
  have HML := Lib.hid hm.ofInts
  clear hx hso hp hn
  go_enter Try.func13, Try.ntmps13
  go_wp2_with fail
  refine (mark_any m _ _ _ _ _ _ ((hbk.alloc (Nat.le_refl _) _).alloc (by simp) _) ((hak.alloc (Nat.le_refl _) _).alloc (by simp) _) (by simp; omega) hl hl').mono ?_
  rw [HN.out]
  rintro e w1 ⟨rfl, hb1⟩
  have hs1 : w.heap.size + 1 < w1.heap.size := by have := hb1.size; simp at this; omega
  have h91 : Below w.heap.size w w1 := (((Below.refl _ _).alloc (Nat.le_refl _) _).alloc (by simp) _).trans (hb1.mono (by simp; omega))
  have B1 := (Blk.new_at (w.alloc (.cells #[.slice Ab m.book.bids.length cb, .slice Aa m.book.asks.length ca, .int .i64 m.index, .int .i64 m.last] 64)) 37 #[.int .i64 a.id, .int .i64 a.bal, .slice A a.pos.length c] (w.heap.size + 1) (by simp)).below hb1 (by simp)
  obtain ⟨⟨m0, m1, m2, m3⟩, _⟩ := (((Blk.new w 64 #[.slice Ab m.book.bids.length cb, .slice Aa m.book.asks.length ca, .int .i64 m.index, .int .i64 m.last]).alloc (.cells #[.int .i64 a.id, .int .i64 a.bal, .slice A a.pos.length c] 37)).below hb1 (by simp; omega)).c4
  clear hb1
  obtain ⟨⟨b0, b1, b2⟩, _⟩ := B1.c3
  by_cases he1 : e1 = 0
  · subst he1
    obtain ⟨⟨i1, i2⟩, i3, i4, i5⟩ := mark_near HN.out
    go_wp2_with fail
    clear m0 m1 m2 m3 b0 b1 b2 i1 i2 i3 i4 i5
    refine (margins_any a _ _ _ _ _ marks _ _ _ (ha.below h91) (by omega) (hm.below h91) (by omega)).mono ?_
    rw [HX.out]
    rintro e w2 ⟨rfl, hb2⟩
    have B2 := B1.below hb2 hs1
    have h92 := h91.trans (hb2.mono (by omega))
    have hs2 : w.heap.size + 1 < w2.heap.size := by have := hb2.size; omega
    clear hb2
    go_wp2_with fail
    refine (weighed_any _).mono ?_
    rintro e w3 ⟨rfl, hb3⟩
    have B3 := B2.below hb3 hs2
    have h93 := h92.trans (hb3.mono (by omega))
    have hs3 : w.heap.size + 1 < w3.heap.size := by have := hb3.size; omega
    clear hb3
    obtain ⟨⟨b0, b1, b2⟩, _⟩ := B3.c3
    by_cases hem : em = 0
    · subst hem
      obtain ⟨hy1, hy2⟩ := holds1 HX.out
      go_wp2_with fail
      refine (sound_any a _ _ _ _ _ marks _ _ _ (ha.below h93) (by omega) (hm.below h93) (by omega)).mono ?_
      rw [HSO.out]
      rintro e w4 ⟨rfl, hb4⟩
      have B4 := B3.below hb4 hs3
      have h94 := h93.trans (hb4.mono (by omega))
      have hs4 : w.heap.size + 1 < w4.heap.size := by have := hb4.size; omega
      clear hb4 b0 b1 b2
      obtain ⟨⟨b0, b1, b2⟩, _⟩ := B4.c3
      have HB : Hid ((es == 0) = false ∨ (es == 0) = true ∧ b = false ∨ (es == 0) = true ∧ b = true ∧ d = true) := by
        show _ ∨ _
        by_cases h1 : es = 0
        · subst h1
          cases b
          · exact .inr (.inl ⟨rfl, rfl⟩)
          · exact .inr (.inr ⟨rfl, rfl, holds2 HSO.out rfl⟩)
        · exact .inl (by simpa using h1)
      rcases HB.out with q1 | ⟨q1, rfl⟩ | ⟨q1, rfl, rfl⟩
      · skip
        go_wp2_with fail
        clear q1
        refine (bankrupt_any a _ _ _ _ _ marks _ _ _ _ (ha.below h94) (by omega) (hm.below h94) (by omega)).mono ?_
        rw [HP.out]
        rintro e w5 ⟨rfl, hb5⟩
        have B5 := B4.below hb5 hs4
        have h95 := h94.trans (hb5.mono (by omega))
        have hs5 : w.heap.size + 1 < w5.heap.size := by have := hb5.size; omega
        clear hb5 b0 b1 b2 B4 h94 B3 h93 B2 h92
        by_cases hep : ep = 0
        · subst hep
          obtain ⟨k, rfl⟩ : ∃ k : Nat, market = k := ⟨market.toNat, by obtain ⟨_, _, h, _⟩ := bankrupt_ok HP.out; omega⟩
          obtain ⟨q, mk, f1, f2, f3, ⟨f4, f4'⟩, f5, f6, f7⟩ := bank_facts HP.out
          have HF1 := Lib.hid f1
          have HF2 := Lib.hid f2
          have HF7 := Lib.hid f7
          have hkn : k < marks.length := (List.getElem?_eq_some_iff.1 f1).1
          have hkn2 : k < n2 := by have := HML.out; omega
          have hki : (k : Int) < (n2 : Int) := by omega
          have hki0 : (0 : Int) ≤ (k : Int) := by omega
          have hkp : (k : Int) < (a.pos.length : Int) := by have := (List.getElem?_eq_some_iff.1 f2).1; omega
          have hn8 : n2 * 8 ≤ 140737488355328 := by have := HML.out; omega
          have hlm := posOk_get (accCheck_ok (margins_ok HX.out).1).2.2.2.2 f2
          clear f1 f2 f7 f5 f6 hkn
          obtain ⟨⟨b0, b1, b2⟩, _⟩ := B5.c3
          go_wp2_with fail
          refine (clone_ints _ _ _ (ints marks) _ _ (hm.below h95) (one_ints marks) (by omega) hn8).mono ?_
          rintro e w6 ⟨v6, rfl, hown6, hb6⟩
          obtain ⟨A6, c6, rfl⟩ := own_shape hown6
          obtain ⟨g6, hA6, hg6⟩ : ∃ g6, A6 = some ⟨g6, 0, none⟩ ∧ w5.heap.size ≤ g6 := by
            obtain ⟨_, ⟨_, hn⟩ | ⟨g, cap, cur, hv, h1, _⟩⟩ := hown6
            · omega
            · injection hv with hA; exact ⟨g, hA, h1⟩
          subst hA6
          have B6 := B5.below hb6 hs5
          have h96 := h95.trans (hb6.mono (by omega))
          have hs6 : w.heap.size + 1 < w6.heap.size := by have := hb6.size; omega
          have hk6 := hown6.cellAt k (by omega)
          rw [ints_get HF1.out] at hk6
          have hf6 := hown6.frozenAt k
          have HO6 := Lib.hid hown6
          have hgw : g6 ≠ w.heap.size + 1 := by omega
          clear hown6 hb6 b0 b1 b2
          obtain ⟨⟨b0, b1, b2⟩, _⟩ := B6.c3
          go_wp2_with fail
          have O7 := (World.ownsRow.stored HO6.out k (.int .i64 p)).1
          have B7 := B6.far (p := ⟨g6, k, none⟩) (by show w.heap.size + 1 ≠ g6; omega) (.int .i64 p)
          have h97 := h96.setCell (p := ⟨g6, k, none⟩) (by show w.heap.size ≤ g6; omega) (.int .i64 p)
          obtain ⟨Y, hY⟩ : ∃ Y, Y = w6.setCell ⟨g6, k, none⟩ (.int .i64 p) := ⟨_, rfl⟩
          have hYs : w.heap.size + 1 < Y.heap.size := by rw [hY]; simpa [World.setCell] using hs6
          rw [← hY] at O7 B7 h97
          rw [← hY]
          rw [show (ints marks).set k (.int .i64 p) = ints (marks.set k p) by simp [ints, List.map_set]] at O7
          have r7 := Rd.of_own O7
          have HO7 := Lib.hid O7
          clear hY O7 hk6 hf6 b0 b1 b2
          rcases HF7.out with e7 | ⟨n', e7, F⟩
          · refine (equity_ref a _ _ _ _ _ _ _ _ _ _ _ e7 (ha.below h97) (by omega) r7 (Nat.le_refl _)).mono ?_
            rintro e w8 ⟨rfl, hb8⟩
            clear e7
            go_wp2_with fail
            go_ret
            exact ⟨rfl, h97.trans (hb8.mono (by omega))⟩
          · refine (equity_ref a _ _ _ _ _ _ _ _ _ _ _ e7 (ha.below h97) (by omega) r7 (Nat.le_refl _)).mono ?_
            rintro e w8 ⟨rfl, hb8⟩
            have HFF := Lib.hid F
            have hYs8 := hb8.size
            have hg8 : g6 < Y.heap.size := (HO7.out.lt g6 rfl).2
            have B8 := B7.below hb8 hYs
            have h98 := h97.trans (hb8.mono (by omega))
            have hs8 : w.heap.size + 1 < w8.heap.size := by have := hb8.size; omega
            have O8 := own_below HO7.out hb8 (Nat.le_refl _)
            have ra8 := ha.below h98
            obtain ⟨bq, oq, hA, hbq, hcq⟩ := ra8.one (ints_get HF2.out)
            subst hA
            have hk8 := O8.cellAt k (by omega)
            rw [show (ints (marks.set k p))[k]? = some (.int .i64 p) by rw [ints_get]; rw [List.getElem?_set_self (by have := HML.out; omega)]] at hk8
            have hf8 := O8.frozenAt k
            have HO8 := Lib.hid O8
            clear hb8 e7 F O8 r7 B7 h97
            obtain ⟨⟨b0, b1, b2⟩, _⟩ := B8.c3
            have HC : Hid (p ≤ 1 ∨ 1 < p ∧ 10000 ≤ p ∨ (1 < p ∧ p < 10000) ∧ q < 0 ∨ (1 < p ∧ p < 10000) ∧ 0 ≤ q) := by show _ ∨ _; omega
            rcases HC.out with c1 | ⟨c1, c2'⟩ | ⟨⟨c1, c2'⟩, c3⟩ | ⟨⟨c1, c2'⟩, c3⟩
            · go_wp2_with fail
              go_ret
              exact ⟨rfl, h98⟩
            · go_wp2_with fail
              go_ret
              exact ⟨rfl, h98⟩
            · skip
              obtain ⟨hn0, hF⟩ := HFF.out c1 c2'
              have HS := Lib.hid (hF (p + 1) (fun _ => by omega) (fun _ => by omega))
              clear hF
              go_wp2_with fail
              have O9 := (World.ownsRow.stored HO8.out k (.int .i64 (p + 1))).1
              have h99 := h98.setCell (p := ⟨g6, k, none⟩) (by show w.heap.size ≤ g6; omega) (.int .i64 (p + 1))
              obtain ⟨Z, hZ⟩ : ∃ Z, Z = w8.setCell ⟨g6, k, none⟩ (.int .i64 (p + 1)) := ⟨_, rfl⟩
              have hZs : w.heap.size + 1 < Z.heap.size := by rw [hZ]; simpa [World.setCell] using hs8
              rw [← hZ] at O9 h99
              rw [← hZ]
              rw [show (ints (marks.set k p)).set k (.int .i64 (p + 1)) = ints (marks.set k (p + 1)) by rw [show ints (marks.set k p) = (ints marks).set k (.int .i64 p) by simp [ints, List.map_set], List.set_set]; simp [ints, List.map_set]] at O9
              have r9 := Rd.of_own O9
              clear hZ O9 hk8 hf8
              rcases HS.out with e9 | ⟨n9, e9, hn9⟩
              · refine (equity_ref a _ _ _ _ _ _ _ _ _ _ _ e9 (ha.below h99) (by omega) r9 (Nat.le_refl _)).mono ?_
                rintro e w9 ⟨rfl, hb9⟩
                clear e9
                go_wp2_with fail
                go_ret
                exact ⟨rfl, h99.trans (hb9.mono (by omega))⟩
              · refine (equity_ref a _ _ _ _ _ _ _ _ _ _ _ e9 (ha.below h99) (by omega) r9 (Nat.le_refl _)).mono ?_
                rintro e w9 ⟨rfl, hb9⟩
                clear e9
                go_wp2_with fail
                go_ret
                exact ⟨rfl, h99.trans (hb9.mono (by omega))⟩
            · skip
              obtain ⟨hn0, hF⟩ := HFF.out c1 c2'
              have HS := Lib.hid (hF (p - 1) (fun _ => by omega) (fun _ => by omega))
              clear hF
              go_wp2_with fail
              have O9 := (World.ownsRow.stored HO8.out k (.int .i64 (p - 1))).1
              have h99 := h98.setCell (p := ⟨g6, k, none⟩) (by show w.heap.size ≤ g6; omega) (.int .i64 (p - 1))
              obtain ⟨Z, hZ⟩ : ∃ Z, Z = w8.setCell ⟨g6, k, none⟩ (.int .i64 (p - 1)) := ⟨_, rfl⟩
              have hZs : w.heap.size + 1 < Z.heap.size := by rw [hZ]; simpa [World.setCell] using hs8
              rw [← hZ] at O9 h99
              rw [← hZ]
              rw [show (ints (marks.set k p)).set k (.int .i64 (p - 1)) = ints (marks.set k (p - 1)) by rw [show ints (marks.set k p) = (ints marks).set k (.int .i64 p) by simp [ints, List.map_set], List.set_set]; simp [ints, List.map_set]] at O9
              have r9 := Rd.of_own O9
              clear hZ O9 hk8 hf8
              rcases HS.out with e9 | ⟨n9, e9, hn9⟩
              · refine (equity_ref a _ _ _ _ _ _ _ _ _ _ _ e9 (ha.below h99) (by omega) r9 (Nat.le_refl _)).mono ?_
                rintro e w9 ⟨rfl, hb9⟩
                clear e9
                go_wp2_with fail
                go_ret
                exact ⟨rfl, h99.trans (hb9.mono (by omega))⟩
              · refine (equity_ref a _ _ _ _ _ _ _ _ _ _ _ e9 (ha.below h99) (by omega) r9 (Nat.le_refl _)).mono ?_
                rintro e w9 ⟨rfl, hb9⟩
                clear e9
                go_wp2_with fail
                go_ret
                exact ⟨rfl, h99.trans (hb9.mono (by omega))⟩
        · have he1 : (ep != 0) = true := by simpa using hep
          clear hep
          go_wp2_with fail
          go_ret
          exact ⟨rfl, h95⟩
      · skip
        go_wp2_with fail
        clear q1
        refine (bankrupt_any a _ _ _ _ _ marks _ _ _ _ (ha.below h94) (by omega) (hm.below h94) (by omega)).mono ?_
        rw [HP.out]
        rintro e w5 ⟨rfl, hb5⟩
        have B5 := B4.below hb5 hs4
        have h95 := h94.trans (hb5.mono (by omega))
        have hs5 : w.heap.size + 1 < w5.heap.size := by have := hb5.size; omega
        clear hb5 b0 b1 b2 B4 h94 B3 h93 B2 h92
        by_cases hep : ep = 0
        · subst hep
          obtain ⟨k, rfl⟩ : ∃ k : Nat, market = k := ⟨market.toNat, by obtain ⟨_, _, h, _⟩ := bankrupt_ok HP.out; omega⟩
          obtain ⟨q, mk, f1, f2, f3, ⟨f4, f4'⟩, f5, f6, f7⟩ := bank_facts HP.out
          have HF1 := Lib.hid f1
          have HF2 := Lib.hid f2
          have HF7 := Lib.hid f7
          have hkn : k < marks.length := (List.getElem?_eq_some_iff.1 f1).1
          have hkn2 : k < n2 := by have := HML.out; omega
          have hki : (k : Int) < (n2 : Int) := by omega
          have hki0 : (0 : Int) ≤ (k : Int) := by omega
          have hkp : (k : Int) < (a.pos.length : Int) := by have := (List.getElem?_eq_some_iff.1 f2).1; omega
          have hn8 : n2 * 8 ≤ 140737488355328 := by have := HML.out; omega
          have hlm := posOk_get (accCheck_ok (margins_ok HX.out).1).2.2.2.2 f2
          clear f1 f2 f7 f5 f6 hkn
          obtain ⟨⟨b0, b1, b2⟩, _⟩ := B5.c3
          go_wp2_with fail
          refine (clone_ints _ _ _ (ints marks) _ _ (hm.below h95) (one_ints marks) (by omega) hn8).mono ?_
          rintro e w6 ⟨v6, rfl, hown6, hb6⟩
          obtain ⟨A6, c6, rfl⟩ := own_shape hown6
          obtain ⟨g6, hA6, hg6⟩ : ∃ g6, A6 = some ⟨g6, 0, none⟩ ∧ w5.heap.size ≤ g6 := by
            obtain ⟨_, ⟨_, hn⟩ | ⟨g, cap, cur, hv, h1, _⟩⟩ := hown6
            · omega
            · injection hv with hA; exact ⟨g, hA, h1⟩
          subst hA6
          have B6 := B5.below hb6 hs5
          have h96 := h95.trans (hb6.mono (by omega))
          have hs6 : w.heap.size + 1 < w6.heap.size := by have := hb6.size; omega
          have hk6 := hown6.cellAt k (by omega)
          rw [ints_get HF1.out] at hk6
          have hf6 := hown6.frozenAt k
          have HO6 := Lib.hid hown6
          have hgw : g6 ≠ w.heap.size + 1 := by omega
          clear hown6 hb6 b0 b1 b2
          obtain ⟨⟨b0, b1, b2⟩, _⟩ := B6.c3
          go_wp2_with fail
          have O7 := (World.ownsRow.stored HO6.out k (.int .i64 p)).1
          have B7 := B6.far (p := ⟨g6, k, none⟩) (by show w.heap.size + 1 ≠ g6; omega) (.int .i64 p)
          have h97 := h96.setCell (p := ⟨g6, k, none⟩) (by show w.heap.size ≤ g6; omega) (.int .i64 p)
          obtain ⟨Y, hY⟩ : ∃ Y, Y = w6.setCell ⟨g6, k, none⟩ (.int .i64 p) := ⟨_, rfl⟩
          have hYs : w.heap.size + 1 < Y.heap.size := by rw [hY]; simpa [World.setCell] using hs6
          rw [← hY] at O7 B7 h97
          rw [← hY]
          rw [show (ints marks).set k (.int .i64 p) = ints (marks.set k p) by simp [ints, List.map_set]] at O7
          have r7 := Rd.of_own O7
          have HO7 := Lib.hid O7
          clear hY O7 hk6 hf6 b0 b1 b2
          rcases HF7.out with e7 | ⟨n', e7, F⟩
          · refine (equity_ref a _ _ _ _ _ _ _ _ _ _ _ e7 (ha.below h97) (by omega) r7 (Nat.le_refl _)).mono ?_
            rintro e w8 ⟨rfl, hb8⟩
            clear e7
            go_wp2_with fail
            go_ret
            exact ⟨rfl, h97.trans (hb8.mono (by omega))⟩
          · refine (equity_ref a _ _ _ _ _ _ _ _ _ _ _ e7 (ha.below h97) (by omega) r7 (Nat.le_refl _)).mono ?_
            rintro e w8 ⟨rfl, hb8⟩
            have HFF := Lib.hid F
            have hYs8 := hb8.size
            have hg8 : g6 < Y.heap.size := (HO7.out.lt g6 rfl).2
            have B8 := B7.below hb8 hYs
            have h98 := h97.trans (hb8.mono (by omega))
            have hs8 : w.heap.size + 1 < w8.heap.size := by have := hb8.size; omega
            have O8 := own_below HO7.out hb8 (Nat.le_refl _)
            have ra8 := ha.below h98
            obtain ⟨bq, oq, hA, hbq, hcq⟩ := ra8.one (ints_get HF2.out)
            subst hA
            have hk8 := O8.cellAt k (by omega)
            rw [show (ints (marks.set k p))[k]? = some (.int .i64 p) by rw [ints_get]; rw [List.getElem?_set_self (by have := HML.out; omega)]] at hk8
            have hf8 := O8.frozenAt k
            have HO8 := Lib.hid O8
            clear hb8 e7 F O8 r7 B7 h97
            obtain ⟨⟨b0, b1, b2⟩, _⟩ := B8.c3
            have HC : Hid (p ≤ 1 ∨ 1 < p ∧ 10000 ≤ p ∨ (1 < p ∧ p < 10000) ∧ q < 0 ∨ (1 < p ∧ p < 10000) ∧ 0 ≤ q) := by show _ ∨ _; omega
            rcases HC.out with c1 | ⟨c1, c2'⟩ | ⟨⟨c1, c2'⟩, c3⟩ | ⟨⟨c1, c2'⟩, c3⟩
            · go_wp2_with fail
              go_ret
              exact ⟨rfl, h98⟩
            · go_wp2_with fail
              go_ret
              exact ⟨rfl, h98⟩
            · skip
              obtain ⟨hn0, hF⟩ := HFF.out c1 c2'
              have HS := Lib.hid (hF (p + 1) (fun _ => by omega) (fun _ => by omega))
              clear hF
              go_wp2_with fail
              have O9 := (World.ownsRow.stored HO8.out k (.int .i64 (p + 1))).1
              have h99 := h98.setCell (p := ⟨g6, k, none⟩) (by show w.heap.size ≤ g6; omega) (.int .i64 (p + 1))
              obtain ⟨Z, hZ⟩ : ∃ Z, Z = w8.setCell ⟨g6, k, none⟩ (.int .i64 (p + 1)) := ⟨_, rfl⟩
              have hZs : w.heap.size + 1 < Z.heap.size := by rw [hZ]; simpa [World.setCell] using hs8
              rw [← hZ] at O9 h99
              rw [← hZ]
              rw [show (ints (marks.set k p)).set k (.int .i64 (p + 1)) = ints (marks.set k (p + 1)) by rw [show ints (marks.set k p) = (ints marks).set k (.int .i64 p) by simp [ints, List.map_set], List.set_set]; simp [ints, List.map_set]] at O9
              have r9 := Rd.of_own O9
              clear hZ O9 hk8 hf8
              rcases HS.out with e9 | ⟨n9, e9, hn9⟩
              · refine (equity_ref a _ _ _ _ _ _ _ _ _ _ _ e9 (ha.below h99) (by omega) r9 (Nat.le_refl _)).mono ?_
                rintro e w9 ⟨rfl, hb9⟩
                clear e9
                go_wp2_with fail
                go_ret
                exact ⟨rfl, h99.trans (hb9.mono (by omega))⟩
              · refine (equity_ref a _ _ _ _ _ _ _ _ _ _ _ e9 (ha.below h99) (by omega) r9 (Nat.le_refl _)).mono ?_
                rintro e w9 ⟨rfl, hb9⟩
                clear e9
                go_wp2_with fail
                go_ret
                exact ⟨rfl, h99.trans (hb9.mono (by omega))⟩
            · skip
              obtain ⟨hn0, hF⟩ := HFF.out c1 c2'
              have HS := Lib.hid (hF (p - 1) (fun _ => by omega) (fun _ => by omega))
              clear hF
              go_wp2_with fail
              have O9 := (World.ownsRow.stored HO8.out k (.int .i64 (p - 1))).1
              have h99 := h98.setCell (p := ⟨g6, k, none⟩) (by show w.heap.size ≤ g6; omega) (.int .i64 (p - 1))
              obtain ⟨Z, hZ⟩ : ∃ Z, Z = w8.setCell ⟨g6, k, none⟩ (.int .i64 (p - 1)) := ⟨_, rfl⟩
              have hZs : w.heap.size + 1 < Z.heap.size := by rw [hZ]; simpa [World.setCell] using hs8
              rw [← hZ] at O9 h99
              rw [← hZ]
              rw [show (ints (marks.set k p)).set k (.int .i64 (p - 1)) = ints (marks.set k (p - 1)) by rw [show ints (marks.set k p) = (ints marks).set k (.int .i64 p) by simp [ints, List.map_set], List.set_set]; simp [ints, List.map_set]] at O9
              have r9 := Rd.of_own O9
              clear hZ O9 hk8 hf8
              rcases HS.out with e9 | ⟨n9, e9, hn9⟩
              · refine (equity_ref a _ _ _ _ _ _ _ _ _ _ _ e9 (ha.below h99) (by omega) r9 (Nat.le_refl _)).mono ?_
                rintro e w9 ⟨rfl, hb9⟩
                clear e9
                go_wp2_with fail
                go_ret
                exact ⟨rfl, h99.trans (hb9.mono (by omega))⟩
              · refine (equity_ref a _ _ _ _ _ _ _ _ _ _ _ e9 (ha.below h99) (by omega) r9 (Nat.le_refl _)).mono ?_
                rintro e w9 ⟨rfl, hb9⟩
                clear e9
                go_wp2_with fail
                go_ret
                exact ⟨rfl, h99.trans (hb9.mono (by omega))⟩
        · have he1 : (ep != 0) = true := by simpa using hep
          clear hep
          go_wp2_with fail
          go_ret
          exact ⟨rfl, h95⟩
      · skip
        go_wp2_with fail
        clear q1
        refine (bankrupt_any a _ _ _ _ _ marks _ _ _ _ (ha.below h94) (by omega) (hm.below h94) (by omega)).mono ?_
        rw [HP.out]
        rintro e w5 ⟨rfl, hb5⟩
        have B5 := B4.below hb5 hs4
        have h95 := h94.trans (hb5.mono (by omega))
        have hs5 : w.heap.size + 1 < w5.heap.size := by have := hb5.size; omega
        clear hb5 b0 b1 b2 B4 h94 B3 h93 B2 h92
        by_cases hep : ep = 0
        · subst hep
          obtain ⟨k, rfl⟩ : ∃ k : Nat, market = k := ⟨market.toNat, by obtain ⟨_, _, h, _⟩ := bankrupt_ok HP.out; omega⟩
          obtain ⟨q, mk, f1, f2, f3, ⟨f4, f4'⟩, f5, f6, f7⟩ := bank_facts HP.out
          have HF1 := Lib.hid f1
          have HF2 := Lib.hid f2
          have HF7 := Lib.hid f7
          have hkn : k < marks.length := (List.getElem?_eq_some_iff.1 f1).1
          have hkn2 : k < n2 := by have := HML.out; omega
          have hki : (k : Int) < (n2 : Int) := by omega
          have hki0 : (0 : Int) ≤ (k : Int) := by omega
          have hkp : (k : Int) < (a.pos.length : Int) := by have := (List.getElem?_eq_some_iff.1 f2).1; omega
          have hn8 : n2 * 8 ≤ 140737488355328 := by have := HML.out; omega
          have hlm := posOk_get (accCheck_ok (margins_ok HX.out).1).2.2.2.2 f2
          clear f1 f2 f7 f5 f6 hkn
          obtain ⟨⟨b0, b1, b2⟩, _⟩ := B5.c3
          go_wp2_with fail
          refine (clone_ints _ _ _ (ints marks) _ _ (hm.below h95) (one_ints marks) (by omega) hn8).mono ?_
          rintro e w6 ⟨v6, rfl, hown6, hb6⟩
          obtain ⟨A6, c6, rfl⟩ := own_shape hown6
          obtain ⟨g6, hA6, hg6⟩ : ∃ g6, A6 = some ⟨g6, 0, none⟩ ∧ w5.heap.size ≤ g6 := by
            obtain ⟨_, ⟨_, hn⟩ | ⟨g, cap, cur, hv, h1, _⟩⟩ := hown6
            · omega
            · injection hv with hA; exact ⟨g, hA, h1⟩
          subst hA6
          have B6 := B5.below hb6 hs5
          have h96 := h95.trans (hb6.mono (by omega))
          have hs6 : w.heap.size + 1 < w6.heap.size := by have := hb6.size; omega
          have hk6 := hown6.cellAt k (by omega)
          rw [ints_get HF1.out] at hk6
          have hf6 := hown6.frozenAt k
          have HO6 := Lib.hid hown6
          have hgw : g6 ≠ w.heap.size + 1 := by omega
          clear hown6 hb6 b0 b1 b2
          obtain ⟨⟨b0, b1, b2⟩, _⟩ := B6.c3
          go_wp2_with fail
          have O7 := (World.ownsRow.stored HO6.out k (.int .i64 p)).1
          have B7 := B6.far (p := ⟨g6, k, none⟩) (by show w.heap.size + 1 ≠ g6; omega) (.int .i64 p)
          have h97 := h96.setCell (p := ⟨g6, k, none⟩) (by show w.heap.size ≤ g6; omega) (.int .i64 p)
          obtain ⟨Y, hY⟩ : ∃ Y, Y = w6.setCell ⟨g6, k, none⟩ (.int .i64 p) := ⟨_, rfl⟩
          have hYs : w.heap.size + 1 < Y.heap.size := by rw [hY]; simpa [World.setCell] using hs6
          rw [← hY] at O7 B7 h97
          rw [← hY]
          rw [show (ints marks).set k (.int .i64 p) = ints (marks.set k p) by simp [ints, List.map_set]] at O7
          have r7 := Rd.of_own O7
          have HO7 := Lib.hid O7
          clear hY O7 hk6 hf6 b0 b1 b2
          rcases HF7.out with e7 | ⟨n', e7, F⟩
          · refine (equity_ref a _ _ _ _ _ _ _ _ _ _ _ e7 (ha.below h97) (by omega) r7 (Nat.le_refl _)).mono ?_
            rintro e w8 ⟨rfl, hb8⟩
            clear e7
            go_wp2_with fail
            go_ret
            exact ⟨rfl, h97.trans (hb8.mono (by omega))⟩
          · refine (equity_ref a _ _ _ _ _ _ _ _ _ _ _ e7 (ha.below h97) (by omega) r7 (Nat.le_refl _)).mono ?_
            rintro e w8 ⟨rfl, hb8⟩
            have HFF := Lib.hid F
            have hYs8 := hb8.size
            have hg8 : g6 < Y.heap.size := (HO7.out.lt g6 rfl).2
            have B8 := B7.below hb8 hYs
            have h98 := h97.trans (hb8.mono (by omega))
            have hs8 : w.heap.size + 1 < w8.heap.size := by have := hb8.size; omega
            have O8 := own_below HO7.out hb8 (Nat.le_refl _)
            have ra8 := ha.below h98
            obtain ⟨bq, oq, hA, hbq, hcq⟩ := ra8.one (ints_get HF2.out)
            subst hA
            have hk8 := O8.cellAt k (by omega)
            rw [show (ints (marks.set k p))[k]? = some (.int .i64 p) by rw [ints_get]; rw [List.getElem?_set_self (by have := HML.out; omega)]] at hk8
            have hf8 := O8.frozenAt k
            have HO8 := Lib.hid O8
            clear hb8 e7 F O8 r7 B7 h97
            obtain ⟨⟨b0, b1, b2⟩, _⟩ := B8.c3
            have HC : Hid (p ≤ 1 ∨ 1 < p ∧ 10000 ≤ p ∨ (1 < p ∧ p < 10000) ∧ q < 0 ∨ (1 < p ∧ p < 10000) ∧ 0 ≤ q) := by show _ ∨ _; omega
            rcases HC.out with c1 | ⟨c1, c2'⟩ | ⟨⟨c1, c2'⟩, c3⟩ | ⟨⟨c1, c2'⟩, c3⟩
            · go_wp2_with fail
              go_ret
              exact ⟨rfl, h98⟩
            · go_wp2_with fail
              go_ret
              exact ⟨rfl, h98⟩
            · skip
              obtain ⟨hn0, hF⟩ := HFF.out c1 c2'
              have HS := Lib.hid (hF (p + 1) (fun _ => by omega) (fun _ => by omega))
              clear hF
              go_wp2_with fail
              have O9 := (World.ownsRow.stored HO8.out k (.int .i64 (p + 1))).1
              have h99 := h98.setCell (p := ⟨g6, k, none⟩) (by show w.heap.size ≤ g6; omega) (.int .i64 (p + 1))
              obtain ⟨Z, hZ⟩ : ∃ Z, Z = w8.setCell ⟨g6, k, none⟩ (.int .i64 (p + 1)) := ⟨_, rfl⟩
              have hZs : w.heap.size + 1 < Z.heap.size := by rw [hZ]; simpa [World.setCell] using hs8
              rw [← hZ] at O9 h99
              rw [← hZ]
              rw [show (ints (marks.set k p)).set k (.int .i64 (p + 1)) = ints (marks.set k (p + 1)) by rw [show ints (marks.set k p) = (ints marks).set k (.int .i64 p) by simp [ints, List.map_set], List.set_set]; simp [ints, List.map_set]] at O9
              have r9 := Rd.of_own O9
              clear hZ O9 hk8 hf8
              rcases HS.out with e9 | ⟨n9, e9, hn9⟩
              · refine (equity_ref a _ _ _ _ _ _ _ _ _ _ _ e9 (ha.below h99) (by omega) r9 (Nat.le_refl _)).mono ?_
                rintro e w9 ⟨rfl, hb9⟩
                clear e9
                go_wp2_with fail
                go_ret
                exact ⟨rfl, h99.trans (hb9.mono (by omega))⟩
              · refine (equity_ref a _ _ _ _ _ _ _ _ _ _ _ e9 (ha.below h99) (by omega) r9 (Nat.le_refl _)).mono ?_
                rintro e w9 ⟨rfl, hb9⟩
                clear e9
                go_wp2_with fail
                go_ret
                exact ⟨rfl, h99.trans (hb9.mono (by omega))⟩
            · skip
              obtain ⟨hn0, hF⟩ := HFF.out c1 c2'
              have HS := Lib.hid (hF (p - 1) (fun _ => by omega) (fun _ => by omega))
              clear hF
              go_wp2_with fail
              have O9 := (World.ownsRow.stored HO8.out k (.int .i64 (p - 1))).1
              have h99 := h98.setCell (p := ⟨g6, k, none⟩) (by show w.heap.size ≤ g6; omega) (.int .i64 (p - 1))
              obtain ⟨Z, hZ⟩ : ∃ Z, Z = w8.setCell ⟨g6, k, none⟩ (.int .i64 (p - 1)) := ⟨_, rfl⟩
              have hZs : w.heap.size + 1 < Z.heap.size := by rw [hZ]; simpa [World.setCell] using hs8
              rw [← hZ] at O9 h99
              rw [← hZ]
              rw [show (ints (marks.set k p)).set k (.int .i64 (p - 1)) = ints (marks.set k (p - 1)) by rw [show ints (marks.set k p) = (ints marks).set k (.int .i64 p) by simp [ints, List.map_set], List.set_set]; simp [ints, List.map_set]] at O9
              have r9 := Rd.of_own O9
              clear hZ O9 hk8 hf8
              rcases HS.out with e9 | ⟨n9, e9, hn9⟩
              · refine (equity_ref a _ _ _ _ _ _ _ _ _ _ _ e9 (ha.below h99) (by omega) r9 (Nat.le_refl _)).mono ?_
                rintro e w9 ⟨rfl, hb9⟩
                clear e9
                go_wp2_with fail
                go_ret
                exact ⟨rfl, h99.trans (hb9.mono (by omega))⟩
              · refine (equity_ref a _ _ _ _ _ _ _ _ _ _ _ e9 (ha.below h99) (by omega) r9 (Nat.le_refl _)).mono ?_
                rintro e w9 ⟨rfl, hb9⟩
                clear e9
                go_wp2_with fail
                go_ret
                exact ⟨rfl, h99.trans (hb9.mono (by omega))⟩
        · have he1 : (ep != 0) = true := by simpa using hep
          clear hep
          go_wp2_with fail
          go_ret
          exact ⟨rfl, h95⟩
    · have he1 : (em != 0) = true := by simpa using hem
      clear hem
      go_wp2_with fail
      refine (weighed_any _).mono ?_
      rintro e w4 ⟨rfl, hb4⟩
      go_wp2_with fail
      go_ret
      exact ⟨rfl, h93.trans (hb4.mono (by omega))⟩
  · have g1 : (e1 == 0) = false := by simpa using he1
    clear he1
    go_wp2_with fail
    clear m0 m1 m2 m3 b0 b1 b2 g1
    refine (margins_any a _ _ _ _ _ marks _ _ _ (ha.below h91) (by omega) (hm.below h91) (by omega)).mono ?_
    rw [HX.out]
    rintro e w2 ⟨rfl, hb2⟩
    have B2 := B1.below hb2 hs1
    have h92 := h91.trans (hb2.mono (by omega))
    have hs2 : w.heap.size + 1 < w2.heap.size := by have := hb2.size; omega
    clear hb2
    go_wp2_with fail
    refine (weighed_any _).mono ?_
    rintro e w3 ⟨rfl, hb3⟩
    have B3 := B2.below hb3 hs2
    have h93 := h92.trans (hb3.mono (by omega))
    have hs3 : w.heap.size + 1 < w3.heap.size := by have := hb3.size; omega
    clear hb3
    obtain ⟨⟨b0, b1, b2⟩, _⟩ := B3.c3
    by_cases hem : em = 0
    · subst hem
      obtain ⟨hy1, hy2⟩ := holds1 HX.out
      go_wp2_with fail
      refine (sound_any a _ _ _ _ _ marks _ _ _ (ha.below h93) (by omega) (hm.below h93) (by omega)).mono ?_
      rw [HSO.out]
      rintro e w4 ⟨rfl, hb4⟩
      have B4 := B3.below hb4 hs3
      have h94 := h93.trans (hb4.mono (by omega))
      have hs4 : w.heap.size + 1 < w4.heap.size := by have := hb4.size; omega
      clear hb4 b0 b1 b2
      obtain ⟨⟨b0, b1, b2⟩, _⟩ := B4.c3
      have HB : Hid ((es == 0) = false ∨ (es == 0) = true ∧ b = false ∨ (es == 0) = true ∧ b = true ∧ d = true) := by
        show _ ∨ _
        by_cases h1 : es = 0
        · subst h1
          cases b
          · exact .inr (.inl ⟨rfl, rfl⟩)
          · exact .inr (.inr ⟨rfl, rfl, holds2 HSO.out rfl⟩)
        · exact .inl (by simpa using h1)
      rcases HB.out with q1 | ⟨q1, rfl⟩ | ⟨q1, rfl, rfl⟩
      · skip
        go_wp2_with fail
        clear q1
        refine (bankrupt_any a _ _ _ _ _ marks _ _ _ _ (ha.below h94) (by omega) (hm.below h94) (by omega)).mono ?_
        rw [HP.out]
        rintro e w5 ⟨rfl, hb5⟩
        have B5 := B4.below hb5 hs4
        have h95 := h94.trans (hb5.mono (by omega))
        have hs5 : w.heap.size + 1 < w5.heap.size := by have := hb5.size; omega
        clear hb5 b0 b1 b2 B4 h94 B3 h93 B2 h92
        by_cases hep : ep = 0
        · subst hep
          obtain ⟨k, rfl⟩ : ∃ k : Nat, market = k := ⟨market.toNat, by obtain ⟨_, _, h, _⟩ := bankrupt_ok HP.out; omega⟩
          obtain ⟨q, mk, f1, f2, f3, ⟨f4, f4'⟩, f5, f6, f7⟩ := bank_facts HP.out
          have HF1 := Lib.hid f1
          have HF2 := Lib.hid f2
          have HF7 := Lib.hid f7
          have hkn : k < marks.length := (List.getElem?_eq_some_iff.1 f1).1
          have hkn2 : k < n2 := by have := HML.out; omega
          have hki : (k : Int) < (n2 : Int) := by omega
          have hki0 : (0 : Int) ≤ (k : Int) := by omega
          have hkp : (k : Int) < (a.pos.length : Int) := by have := (List.getElem?_eq_some_iff.1 f2).1; omega
          have hn8 : n2 * 8 ≤ 140737488355328 := by have := HML.out; omega
          have hlm := posOk_get (accCheck_ok (margins_ok HX.out).1).2.2.2.2 f2
          clear f1 f2 f7 f5 f6 hkn
          obtain ⟨⟨b0, b1, b2⟩, _⟩ := B5.c3
          go_wp2_with fail
          refine (clone_ints _ _ _ (ints marks) _ _ (hm.below h95) (one_ints marks) (by omega) hn8).mono ?_
          rintro e w6 ⟨v6, rfl, hown6, hb6⟩
          obtain ⟨A6, c6, rfl⟩ := own_shape hown6
          obtain ⟨g6, hA6, hg6⟩ : ∃ g6, A6 = some ⟨g6, 0, none⟩ ∧ w5.heap.size ≤ g6 := by
            obtain ⟨_, ⟨_, hn⟩ | ⟨g, cap, cur, hv, h1, _⟩⟩ := hown6
            · omega
            · injection hv with hA; exact ⟨g, hA, h1⟩
          subst hA6
          have B6 := B5.below hb6 hs5
          have h96 := h95.trans (hb6.mono (by omega))
          have hs6 : w.heap.size + 1 < w6.heap.size := by have := hb6.size; omega
          have hk6 := hown6.cellAt k (by omega)
          rw [ints_get HF1.out] at hk6
          have hf6 := hown6.frozenAt k
          have HO6 := Lib.hid hown6
          have hgw : g6 ≠ w.heap.size + 1 := by omega
          clear hown6 hb6 b0 b1 b2
          obtain ⟨⟨b0, b1, b2⟩, _⟩ := B6.c3
          go_wp2_with fail
          have O7 := (World.ownsRow.stored HO6.out k (.int .i64 p)).1
          have B7 := B6.far (p := ⟨g6, k, none⟩) (by show w.heap.size + 1 ≠ g6; omega) (.int .i64 p)
          have h97 := h96.setCell (p := ⟨g6, k, none⟩) (by show w.heap.size ≤ g6; omega) (.int .i64 p)
          obtain ⟨Y, hY⟩ : ∃ Y, Y = w6.setCell ⟨g6, k, none⟩ (.int .i64 p) := ⟨_, rfl⟩
          have hYs : w.heap.size + 1 < Y.heap.size := by rw [hY]; simpa [World.setCell] using hs6
          rw [← hY] at O7 B7 h97
          rw [← hY]
          rw [show (ints marks).set k (.int .i64 p) = ints (marks.set k p) by simp [ints, List.map_set]] at O7
          have r7 := Rd.of_own O7
          have HO7 := Lib.hid O7
          clear hY O7 hk6 hf6 b0 b1 b2
          rcases HF7.out with e7 | ⟨n', e7, F⟩
          · refine (equity_ref a _ _ _ _ _ _ _ _ _ _ _ e7 (ha.below h97) (by omega) r7 (Nat.le_refl _)).mono ?_
            rintro e w8 ⟨rfl, hb8⟩
            clear e7
            go_wp2_with fail
            go_ret
            exact ⟨rfl, h97.trans (hb8.mono (by omega))⟩
          · refine (equity_ref a _ _ _ _ _ _ _ _ _ _ _ e7 (ha.below h97) (by omega) r7 (Nat.le_refl _)).mono ?_
            rintro e w8 ⟨rfl, hb8⟩
            have HFF := Lib.hid F
            have hYs8 := hb8.size
            have hg8 : g6 < Y.heap.size := (HO7.out.lt g6 rfl).2
            have B8 := B7.below hb8 hYs
            have h98 := h97.trans (hb8.mono (by omega))
            have hs8 : w.heap.size + 1 < w8.heap.size := by have := hb8.size; omega
            have O8 := own_below HO7.out hb8 (Nat.le_refl _)
            have ra8 := ha.below h98
            obtain ⟨bq, oq, hA, hbq, hcq⟩ := ra8.one (ints_get HF2.out)
            subst hA
            have hk8 := O8.cellAt k (by omega)
            rw [show (ints (marks.set k p))[k]? = some (.int .i64 p) by rw [ints_get]; rw [List.getElem?_set_self (by have := HML.out; omega)]] at hk8
            have hf8 := O8.frozenAt k
            have HO8 := Lib.hid O8
            clear hb8 e7 F O8 r7 B7 h97
            obtain ⟨⟨b0, b1, b2⟩, _⟩ := B8.c3
            have HC : Hid (p ≤ 1 ∨ 1 < p ∧ 10000 ≤ p ∨ (1 < p ∧ p < 10000) ∧ q < 0 ∨ (1 < p ∧ p < 10000) ∧ 0 ≤ q) := by show _ ∨ _; omega
            rcases HC.out with c1 | ⟨c1, c2'⟩ | ⟨⟨c1, c2'⟩, c3⟩ | ⟨⟨c1, c2'⟩, c3⟩
            · go_wp2_with fail
              go_ret
              exact ⟨rfl, h98⟩
            · go_wp2_with fail
              go_ret
              exact ⟨rfl, h98⟩
            · skip
              obtain ⟨hn0, hF⟩ := HFF.out c1 c2'
              have HS := Lib.hid (hF (p + 1) (fun _ => by omega) (fun _ => by omega))
              clear hF
              go_wp2_with fail
              have O9 := (World.ownsRow.stored HO8.out k (.int .i64 (p + 1))).1
              have h99 := h98.setCell (p := ⟨g6, k, none⟩) (by show w.heap.size ≤ g6; omega) (.int .i64 (p + 1))
              obtain ⟨Z, hZ⟩ : ∃ Z, Z = w8.setCell ⟨g6, k, none⟩ (.int .i64 (p + 1)) := ⟨_, rfl⟩
              have hZs : w.heap.size + 1 < Z.heap.size := by rw [hZ]; simpa [World.setCell] using hs8
              rw [← hZ] at O9 h99
              rw [← hZ]
              rw [show (ints (marks.set k p)).set k (.int .i64 (p + 1)) = ints (marks.set k (p + 1)) by rw [show ints (marks.set k p) = (ints marks).set k (.int .i64 p) by simp [ints, List.map_set], List.set_set]; simp [ints, List.map_set]] at O9
              have r9 := Rd.of_own O9
              clear hZ O9 hk8 hf8
              rcases HS.out with e9 | ⟨n9, e9, hn9⟩
              · refine (equity_ref a _ _ _ _ _ _ _ _ _ _ _ e9 (ha.below h99) (by omega) r9 (Nat.le_refl _)).mono ?_
                rintro e w9 ⟨rfl, hb9⟩
                clear e9
                go_wp2_with fail
                go_ret
                exact ⟨rfl, h99.trans (hb9.mono (by omega))⟩
              · refine (equity_ref a _ _ _ _ _ _ _ _ _ _ _ e9 (ha.below h99) (by omega) r9 (Nat.le_refl _)).mono ?_
                rintro e w9 ⟨rfl, hb9⟩
                clear e9
                go_wp2_with fail
                go_ret
                exact ⟨rfl, h99.trans (hb9.mono (by omega))⟩
            · skip
              obtain ⟨hn0, hF⟩ := HFF.out c1 c2'
              have HS := Lib.hid (hF (p - 1) (fun _ => by omega) (fun _ => by omega))
              clear hF
              go_wp2_with fail
              have O9 := (World.ownsRow.stored HO8.out k (.int .i64 (p - 1))).1
              have h99 := h98.setCell (p := ⟨g6, k, none⟩) (by show w.heap.size ≤ g6; omega) (.int .i64 (p - 1))
              obtain ⟨Z, hZ⟩ : ∃ Z, Z = w8.setCell ⟨g6, k, none⟩ (.int .i64 (p - 1)) := ⟨_, rfl⟩
              have hZs : w.heap.size + 1 < Z.heap.size := by rw [hZ]; simpa [World.setCell] using hs8
              rw [← hZ] at O9 h99
              rw [← hZ]
              rw [show (ints (marks.set k p)).set k (.int .i64 (p - 1)) = ints (marks.set k (p - 1)) by rw [show ints (marks.set k p) = (ints marks).set k (.int .i64 p) by simp [ints, List.map_set], List.set_set]; simp [ints, List.map_set]] at O9
              have r9 := Rd.of_own O9
              clear hZ O9 hk8 hf8
              rcases HS.out with e9 | ⟨n9, e9, hn9⟩
              · refine (equity_ref a _ _ _ _ _ _ _ _ _ _ _ e9 (ha.below h99) (by omega) r9 (Nat.le_refl _)).mono ?_
                rintro e w9 ⟨rfl, hb9⟩
                clear e9
                go_wp2_with fail
                go_ret
                exact ⟨rfl, h99.trans (hb9.mono (by omega))⟩
              · refine (equity_ref a _ _ _ _ _ _ _ _ _ _ _ e9 (ha.below h99) (by omega) r9 (Nat.le_refl _)).mono ?_
                rintro e w9 ⟨rfl, hb9⟩
                clear e9
                go_wp2_with fail
                go_ret
                exact ⟨rfl, h99.trans (hb9.mono (by omega))⟩
        · have he1 : (ep != 0) = true := by simpa using hep
          clear hep
          go_wp2_with fail
          go_ret
          exact ⟨rfl, h95⟩
      · skip
        go_wp2_with fail
        clear q1
        refine (bankrupt_any a _ _ _ _ _ marks _ _ _ _ (ha.below h94) (by omega) (hm.below h94) (by omega)).mono ?_
        rw [HP.out]
        rintro e w5 ⟨rfl, hb5⟩
        have B5 := B4.below hb5 hs4
        have h95 := h94.trans (hb5.mono (by omega))
        have hs5 : w.heap.size + 1 < w5.heap.size := by have := hb5.size; omega
        clear hb5 b0 b1 b2 B4 h94 B3 h93 B2 h92
        by_cases hep : ep = 0
        · subst hep
          obtain ⟨k, rfl⟩ : ∃ k : Nat, market = k := ⟨market.toNat, by obtain ⟨_, _, h, _⟩ := bankrupt_ok HP.out; omega⟩
          obtain ⟨q, mk, f1, f2, f3, ⟨f4, f4'⟩, f5, f6, f7⟩ := bank_facts HP.out
          have HF1 := Lib.hid f1
          have HF2 := Lib.hid f2
          have HF7 := Lib.hid f7
          have hkn : k < marks.length := (List.getElem?_eq_some_iff.1 f1).1
          have hkn2 : k < n2 := by have := HML.out; omega
          have hki : (k : Int) < (n2 : Int) := by omega
          have hki0 : (0 : Int) ≤ (k : Int) := by omega
          have hkp : (k : Int) < (a.pos.length : Int) := by have := (List.getElem?_eq_some_iff.1 f2).1; omega
          have hn8 : n2 * 8 ≤ 140737488355328 := by have := HML.out; omega
          have hlm := posOk_get (accCheck_ok (margins_ok HX.out).1).2.2.2.2 f2
          clear f1 f2 f7 f5 f6 hkn
          obtain ⟨⟨b0, b1, b2⟩, _⟩ := B5.c3
          go_wp2_with fail
          refine (clone_ints _ _ _ (ints marks) _ _ (hm.below h95) (one_ints marks) (by omega) hn8).mono ?_
          rintro e w6 ⟨v6, rfl, hown6, hb6⟩
          obtain ⟨A6, c6, rfl⟩ := own_shape hown6
          obtain ⟨g6, hA6, hg6⟩ : ∃ g6, A6 = some ⟨g6, 0, none⟩ ∧ w5.heap.size ≤ g6 := by
            obtain ⟨_, ⟨_, hn⟩ | ⟨g, cap, cur, hv, h1, _⟩⟩ := hown6
            · omega
            · injection hv with hA; exact ⟨g, hA, h1⟩
          subst hA6
          have B6 := B5.below hb6 hs5
          have h96 := h95.trans (hb6.mono (by omega))
          have hs6 : w.heap.size + 1 < w6.heap.size := by have := hb6.size; omega
          have hk6 := hown6.cellAt k (by omega)
          rw [ints_get HF1.out] at hk6
          have hf6 := hown6.frozenAt k
          have HO6 := Lib.hid hown6
          have hgw : g6 ≠ w.heap.size + 1 := by omega
          clear hown6 hb6 b0 b1 b2
          obtain ⟨⟨b0, b1, b2⟩, _⟩ := B6.c3
          go_wp2_with fail
          have O7 := (World.ownsRow.stored HO6.out k (.int .i64 p)).1
          have B7 := B6.far (p := ⟨g6, k, none⟩) (by show w.heap.size + 1 ≠ g6; omega) (.int .i64 p)
          have h97 := h96.setCell (p := ⟨g6, k, none⟩) (by show w.heap.size ≤ g6; omega) (.int .i64 p)
          obtain ⟨Y, hY⟩ : ∃ Y, Y = w6.setCell ⟨g6, k, none⟩ (.int .i64 p) := ⟨_, rfl⟩
          have hYs : w.heap.size + 1 < Y.heap.size := by rw [hY]; simpa [World.setCell] using hs6
          rw [← hY] at O7 B7 h97
          rw [← hY]
          rw [show (ints marks).set k (.int .i64 p) = ints (marks.set k p) by simp [ints, List.map_set]] at O7
          have r7 := Rd.of_own O7
          have HO7 := Lib.hid O7
          clear hY O7 hk6 hf6 b0 b1 b2
          rcases HF7.out with e7 | ⟨n', e7, F⟩
          · refine (equity_ref a _ _ _ _ _ _ _ _ _ _ _ e7 (ha.below h97) (by omega) r7 (Nat.le_refl _)).mono ?_
            rintro e w8 ⟨rfl, hb8⟩
            clear e7
            go_wp2_with fail
            go_ret
            exact ⟨rfl, h97.trans (hb8.mono (by omega))⟩
          · refine (equity_ref a _ _ _ _ _ _ _ _ _ _ _ e7 (ha.below h97) (by omega) r7 (Nat.le_refl _)).mono ?_
            rintro e w8 ⟨rfl, hb8⟩
            have HFF := Lib.hid F
            have hYs8 := hb8.size
            have hg8 : g6 < Y.heap.size := (HO7.out.lt g6 rfl).2
            have B8 := B7.below hb8 hYs
            have h98 := h97.trans (hb8.mono (by omega))
            have hs8 : w.heap.size + 1 < w8.heap.size := by have := hb8.size; omega
            have O8 := own_below HO7.out hb8 (Nat.le_refl _)
            have ra8 := ha.below h98
            obtain ⟨bq, oq, hA, hbq, hcq⟩ := ra8.one (ints_get HF2.out)
            subst hA
            have hk8 := O8.cellAt k (by omega)
            rw [show (ints (marks.set k p))[k]? = some (.int .i64 p) by rw [ints_get]; rw [List.getElem?_set_self (by have := HML.out; omega)]] at hk8
            have hf8 := O8.frozenAt k
            have HO8 := Lib.hid O8
            clear hb8 e7 F O8 r7 B7 h97
            obtain ⟨⟨b0, b1, b2⟩, _⟩ := B8.c3
            have HC : Hid (p ≤ 1 ∨ 1 < p ∧ 10000 ≤ p ∨ (1 < p ∧ p < 10000) ∧ q < 0 ∨ (1 < p ∧ p < 10000) ∧ 0 ≤ q) := by show _ ∨ _; omega
            rcases HC.out with c1 | ⟨c1, c2'⟩ | ⟨⟨c1, c2'⟩, c3⟩ | ⟨⟨c1, c2'⟩, c3⟩
            · go_wp2_with fail
              go_ret
              exact ⟨rfl, h98⟩
            · go_wp2_with fail
              go_ret
              exact ⟨rfl, h98⟩
            · skip
              obtain ⟨hn0, hF⟩ := HFF.out c1 c2'
              have HS := Lib.hid (hF (p + 1) (fun _ => by omega) (fun _ => by omega))
              clear hF
              go_wp2_with fail
              have O9 := (World.ownsRow.stored HO8.out k (.int .i64 (p + 1))).1
              have h99 := h98.setCell (p := ⟨g6, k, none⟩) (by show w.heap.size ≤ g6; omega) (.int .i64 (p + 1))
              obtain ⟨Z, hZ⟩ : ∃ Z, Z = w8.setCell ⟨g6, k, none⟩ (.int .i64 (p + 1)) := ⟨_, rfl⟩
              have hZs : w.heap.size + 1 < Z.heap.size := by rw [hZ]; simpa [World.setCell] using hs8
              rw [← hZ] at O9 h99
              rw [← hZ]
              rw [show (ints (marks.set k p)).set k (.int .i64 (p + 1)) = ints (marks.set k (p + 1)) by rw [show ints (marks.set k p) = (ints marks).set k (.int .i64 p) by simp [ints, List.map_set], List.set_set]; simp [ints, List.map_set]] at O9
              have r9 := Rd.of_own O9
              clear hZ O9 hk8 hf8
              rcases HS.out with e9 | ⟨n9, e9, hn9⟩
              · refine (equity_ref a _ _ _ _ _ _ _ _ _ _ _ e9 (ha.below h99) (by omega) r9 (Nat.le_refl _)).mono ?_
                rintro e w9 ⟨rfl, hb9⟩
                clear e9
                go_wp2_with fail
                go_ret
                exact ⟨rfl, h99.trans (hb9.mono (by omega))⟩
              · refine (equity_ref a _ _ _ _ _ _ _ _ _ _ _ e9 (ha.below h99) (by omega) r9 (Nat.le_refl _)).mono ?_
                rintro e w9 ⟨rfl, hb9⟩
                clear e9
                go_wp2_with fail
                go_ret
                exact ⟨rfl, h99.trans (hb9.mono (by omega))⟩
            · skip
              obtain ⟨hn0, hF⟩ := HFF.out c1 c2'
              have HS := Lib.hid (hF (p - 1) (fun _ => by omega) (fun _ => by omega))
              clear hF
              go_wp2_with fail
              have O9 := (World.ownsRow.stored HO8.out k (.int .i64 (p - 1))).1
              have h99 := h98.setCell (p := ⟨g6, k, none⟩) (by show w.heap.size ≤ g6; omega) (.int .i64 (p - 1))
              obtain ⟨Z, hZ⟩ : ∃ Z, Z = w8.setCell ⟨g6, k, none⟩ (.int .i64 (p - 1)) := ⟨_, rfl⟩
              have hZs : w.heap.size + 1 < Z.heap.size := by rw [hZ]; simpa [World.setCell] using hs8
              rw [← hZ] at O9 h99
              rw [← hZ]
              rw [show (ints (marks.set k p)).set k (.int .i64 (p - 1)) = ints (marks.set k (p - 1)) by rw [show ints (marks.set k p) = (ints marks).set k (.int .i64 p) by simp [ints, List.map_set], List.set_set]; simp [ints, List.map_set]] at O9
              have r9 := Rd.of_own O9
              clear hZ O9 hk8 hf8
              rcases HS.out with e9 | ⟨n9, e9, hn9⟩
              · refine (equity_ref a _ _ _ _ _ _ _ _ _ _ _ e9 (ha.below h99) (by omega) r9 (Nat.le_refl _)).mono ?_
                rintro e w9 ⟨rfl, hb9⟩
                clear e9
                go_wp2_with fail
                go_ret
                exact ⟨rfl, h99.trans (hb9.mono (by omega))⟩
              · refine (equity_ref a _ _ _ _ _ _ _ _ _ _ _ e9 (ha.below h99) (by omega) r9 (Nat.le_refl _)).mono ?_
                rintro e w9 ⟨rfl, hb9⟩
                clear e9
                go_wp2_with fail
                go_ret
                exact ⟨rfl, h99.trans (hb9.mono (by omega))⟩
        · have he1 : (ep != 0) = true := by simpa using hep
          clear hep
          go_wp2_with fail
          go_ret
          exact ⟨rfl, h95⟩
      · skip
        go_wp2_with fail
        clear q1
        refine (bankrupt_any a _ _ _ _ _ marks _ _ _ _ (ha.below h94) (by omega) (hm.below h94) (by omega)).mono ?_
        rw [HP.out]
        rintro e w5 ⟨rfl, hb5⟩
        have B5 := B4.below hb5 hs4
        have h95 := h94.trans (hb5.mono (by omega))
        have hs5 : w.heap.size + 1 < w5.heap.size := by have := hb5.size; omega
        clear hb5 b0 b1 b2 B4 h94 B3 h93 B2 h92
        by_cases hep : ep = 0
        · subst hep
          obtain ⟨k, rfl⟩ : ∃ k : Nat, market = k := ⟨market.toNat, by obtain ⟨_, _, h, _⟩ := bankrupt_ok HP.out; omega⟩
          obtain ⟨q, mk, f1, f2, f3, ⟨f4, f4'⟩, f5, f6, f7⟩ := bank_facts HP.out
          have HF1 := Lib.hid f1
          have HF2 := Lib.hid f2
          have HF7 := Lib.hid f7
          have hkn : k < marks.length := (List.getElem?_eq_some_iff.1 f1).1
          have hkn2 : k < n2 := by have := HML.out; omega
          have hki : (k : Int) < (n2 : Int) := by omega
          have hki0 : (0 : Int) ≤ (k : Int) := by omega
          have hkp : (k : Int) < (a.pos.length : Int) := by have := (List.getElem?_eq_some_iff.1 f2).1; omega
          have hn8 : n2 * 8 ≤ 140737488355328 := by have := HML.out; omega
          have hlm := posOk_get (accCheck_ok (margins_ok HX.out).1).2.2.2.2 f2
          clear f1 f2 f7 f5 f6 hkn
          obtain ⟨⟨b0, b1, b2⟩, _⟩ := B5.c3
          go_wp2_with fail
          refine (clone_ints _ _ _ (ints marks) _ _ (hm.below h95) (one_ints marks) (by omega) hn8).mono ?_
          rintro e w6 ⟨v6, rfl, hown6, hb6⟩
          obtain ⟨A6, c6, rfl⟩ := own_shape hown6
          obtain ⟨g6, hA6, hg6⟩ : ∃ g6, A6 = some ⟨g6, 0, none⟩ ∧ w5.heap.size ≤ g6 := by
            obtain ⟨_, ⟨_, hn⟩ | ⟨g, cap, cur, hv, h1, _⟩⟩ := hown6
            · omega
            · injection hv with hA; exact ⟨g, hA, h1⟩
          subst hA6
          have B6 := B5.below hb6 hs5
          have h96 := h95.trans (hb6.mono (by omega))
          have hs6 : w.heap.size + 1 < w6.heap.size := by have := hb6.size; omega
          have hk6 := hown6.cellAt k (by omega)
          rw [ints_get HF1.out] at hk6
          have hf6 := hown6.frozenAt k
          have HO6 := Lib.hid hown6
          have hgw : g6 ≠ w.heap.size + 1 := by omega
          clear hown6 hb6 b0 b1 b2
          obtain ⟨⟨b0, b1, b2⟩, _⟩ := B6.c3
          go_wp2_with fail
          have O7 := (World.ownsRow.stored HO6.out k (.int .i64 p)).1
          have B7 := B6.far (p := ⟨g6, k, none⟩) (by show w.heap.size + 1 ≠ g6; omega) (.int .i64 p)
          have h97 := h96.setCell (p := ⟨g6, k, none⟩) (by show w.heap.size ≤ g6; omega) (.int .i64 p)
          obtain ⟨Y, hY⟩ : ∃ Y, Y = w6.setCell ⟨g6, k, none⟩ (.int .i64 p) := ⟨_, rfl⟩
          have hYs : w.heap.size + 1 < Y.heap.size := by rw [hY]; simpa [World.setCell] using hs6
          rw [← hY] at O7 B7 h97
          rw [← hY]
          rw [show (ints marks).set k (.int .i64 p) = ints (marks.set k p) by simp [ints, List.map_set]] at O7
          have r7 := Rd.of_own O7
          have HO7 := Lib.hid O7
          clear hY O7 hk6 hf6 b0 b1 b2
          rcases HF7.out with e7 | ⟨n', e7, F⟩
          · refine (equity_ref a _ _ _ _ _ _ _ _ _ _ _ e7 (ha.below h97) (by omega) r7 (Nat.le_refl _)).mono ?_
            rintro e w8 ⟨rfl, hb8⟩
            clear e7
            go_wp2_with fail
            go_ret
            exact ⟨rfl, h97.trans (hb8.mono (by omega))⟩
          · refine (equity_ref a _ _ _ _ _ _ _ _ _ _ _ e7 (ha.below h97) (by omega) r7 (Nat.le_refl _)).mono ?_
            rintro e w8 ⟨rfl, hb8⟩
            have HFF := Lib.hid F
            have hYs8 := hb8.size
            have hg8 : g6 < Y.heap.size := (HO7.out.lt g6 rfl).2
            have B8 := B7.below hb8 hYs
            have h98 := h97.trans (hb8.mono (by omega))
            have hs8 : w.heap.size + 1 < w8.heap.size := by have := hb8.size; omega
            have O8 := own_below HO7.out hb8 (Nat.le_refl _)
            have ra8 := ha.below h98
            obtain ⟨bq, oq, hA, hbq, hcq⟩ := ra8.one (ints_get HF2.out)
            subst hA
            have hk8 := O8.cellAt k (by omega)
            rw [show (ints (marks.set k p))[k]? = some (.int .i64 p) by rw [ints_get]; rw [List.getElem?_set_self (by have := HML.out; omega)]] at hk8
            have hf8 := O8.frozenAt k
            have HO8 := Lib.hid O8
            clear hb8 e7 F O8 r7 B7 h97
            obtain ⟨⟨b0, b1, b2⟩, _⟩ := B8.c3
            have HC : Hid (p ≤ 1 ∨ 1 < p ∧ 10000 ≤ p ∨ (1 < p ∧ p < 10000) ∧ q < 0 ∨ (1 < p ∧ p < 10000) ∧ 0 ≤ q) := by show _ ∨ _; omega
            rcases HC.out with c1 | ⟨c1, c2'⟩ | ⟨⟨c1, c2'⟩, c3⟩ | ⟨⟨c1, c2'⟩, c3⟩
            · go_wp2_with fail
              go_ret
              exact ⟨rfl, h98⟩
            · go_wp2_with fail
              go_ret
              exact ⟨rfl, h98⟩
            · skip
              obtain ⟨hn0, hF⟩ := HFF.out c1 c2'
              have HS := Lib.hid (hF (p + 1) (fun _ => by omega) (fun _ => by omega))
              clear hF
              go_wp2_with fail
              have O9 := (World.ownsRow.stored HO8.out k (.int .i64 (p + 1))).1
              have h99 := h98.setCell (p := ⟨g6, k, none⟩) (by show w.heap.size ≤ g6; omega) (.int .i64 (p + 1))
              obtain ⟨Z, hZ⟩ : ∃ Z, Z = w8.setCell ⟨g6, k, none⟩ (.int .i64 (p + 1)) := ⟨_, rfl⟩
              have hZs : w.heap.size + 1 < Z.heap.size := by rw [hZ]; simpa [World.setCell] using hs8
              rw [← hZ] at O9 h99
              rw [← hZ]
              rw [show (ints (marks.set k p)).set k (.int .i64 (p + 1)) = ints (marks.set k (p + 1)) by rw [show ints (marks.set k p) = (ints marks).set k (.int .i64 p) by simp [ints, List.map_set], List.set_set]; simp [ints, List.map_set]] at O9
              have r9 := Rd.of_own O9
              clear hZ O9 hk8 hf8
              rcases HS.out with e9 | ⟨n9, e9, hn9⟩
              · refine (equity_ref a _ _ _ _ _ _ _ _ _ _ _ e9 (ha.below h99) (by omega) r9 (Nat.le_refl _)).mono ?_
                rintro e w9 ⟨rfl, hb9⟩
                clear e9
                go_wp2_with fail
                go_ret
                exact ⟨rfl, h99.trans (hb9.mono (by omega))⟩
              · refine (equity_ref a _ _ _ _ _ _ _ _ _ _ _ e9 (ha.below h99) (by omega) r9 (Nat.le_refl _)).mono ?_
                rintro e w9 ⟨rfl, hb9⟩
                clear e9
                go_wp2_with fail
                go_ret
                exact ⟨rfl, h99.trans (hb9.mono (by omega))⟩
            · skip
              obtain ⟨hn0, hF⟩ := HFF.out c1 c2'
              have HS := Lib.hid (hF (p - 1) (fun _ => by omega) (fun _ => by omega))
              clear hF
              go_wp2_with fail
              have O9 := (World.ownsRow.stored HO8.out k (.int .i64 (p - 1))).1
              have h99 := h98.setCell (p := ⟨g6, k, none⟩) (by show w.heap.size ≤ g6; omega) (.int .i64 (p - 1))
              obtain ⟨Z, hZ⟩ : ∃ Z, Z = w8.setCell ⟨g6, k, none⟩ (.int .i64 (p - 1)) := ⟨_, rfl⟩
              have hZs : w.heap.size + 1 < Z.heap.size := by rw [hZ]; simpa [World.setCell] using hs8
              rw [← hZ] at O9 h99
              rw [← hZ]
              rw [show (ints (marks.set k p)).set k (.int .i64 (p - 1)) = ints (marks.set k (p - 1)) by rw [show ints (marks.set k p) = (ints marks).set k (.int .i64 p) by simp [ints, List.map_set], List.set_set]; simp [ints, List.map_set]] at O9
              have r9 := Rd.of_own O9
              clear hZ O9 hk8 hf8
              rcases HS.out with e9 | ⟨n9, e9, hn9⟩
              · refine (equity_ref a _ _ _ _ _ _ _ _ _ _ _ e9 (ha.below h99) (by omega) r9 (Nat.le_refl _)).mono ?_
                rintro e w9 ⟨rfl, hb9⟩
                clear e9
                go_wp2_with fail
                go_ret
                exact ⟨rfl, h99.trans (hb9.mono (by omega))⟩
              · refine (equity_ref a _ _ _ _ _ _ _ _ _ _ _ e9 (ha.below h99) (by omega) r9 (Nat.le_refl _)).mono ?_
                rintro e w9 ⟨rfl, hb9⟩
                clear e9
                go_wp2_with fail
                go_ret
                exact ⟨rfl, h99.trans (hb9.mono (by omega))⟩
        · have he1 : (ep != 0) = true := by simpa using hep
          clear hep
          go_wp2_with fail
          go_ret
          exact ⟨rfl, h95⟩
    · have he1 : (em != 0) = true := by simpa using hem
      clear hem
      go_wp2_with fail
      refine (weighed_any _).mono ?_
      rintro e w4 ⟨rfl, hb4⟩
      go_wp2_with fail
      go_ret
      exact ⟨rfl, h93.trans (hb4.mono (by omega))⟩

theorem reach_len {A : Option Addr} {w : World} {B k n c : Nat} {xs : List Value} (h : Rd w B k A n c xs) (hc : c * 40 ≤ reachBytes) : n ≤ 4000000000000 := by
  have := h.le
  have : reachBytes = 140737488351232 := rfl
  omega
theorem riskHolds_walk (m : Mk) (Ab Aa : Option Addr) (cb ca : Nat) (a : Ac) (A : Option Addr) (c : Nat) (A2 : Option Addr) (n2 c2 : Nat) (marks : List Int) (market : Int) (w : World)
    (hbk : Rd w w.heap.size 5 Ab m.book.bids.length cb (odCells m.book.bids)) (hak : Rd w w.heap.size 5 Aa m.book.asks.length ca (odCells m.book.asks)) (hs : cb * 40 ≤ reachBytes) (ht : ca * 40 ≤ reachBytes)
    (ha : Rd w w.heap.size 1 A a.pos.length c (ints a.pos)) (hm : Rd w w.heap.size 1 A2 n2 c2 (ints marks)) :
    Calls Try.prog 13 #[.agg #[.slice Ab m.book.bids.length cb, .slice Aa m.book.asks.length ca, .int .i64 m.index, .int .i64 m.last], .agg #[.int .i64 a.id, .int .i64 a.bal, .slice A a.pos.length c], .slice A2 n2 c2, .int .i64 market] w fun e w' => e = .returned (.bool true) ∧ Below w.heap.size w w' :=
  riskHolds_core m Ab Aa cb ca a A c A2 n2 c2 marks market w hbk hak (reach_len hbk hs) (reach_len hak ht) ha hm

end Go.Proofs.Ytockodmbhnlheaa
