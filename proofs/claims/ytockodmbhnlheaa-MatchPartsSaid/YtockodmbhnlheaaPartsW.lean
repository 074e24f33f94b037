/-
  THE WALK of the law MatchParts.
-/
import Derived.Test.YtockodmbhnlheaaMatched
import Derived.Test.YtockodmbhnlheaaOf
import Derived.Test.YtockodmbhnlheaaAt
namespace Go.Proofs.Ytockodmbhnlheaa
open Go.RowKit


theorem take_ref {x : Bk} {l : List Fl} {left : Int} {met : Bool} {e' : Int} (b : Bk) (o : Od) (A A' : Option Addr) (c c' B : Nat) (w : World) (hr : takeOf b o = (x, l, left, met, e')) (h : BkR w B A A' c c' b) (hB : B ≤ w.heap.size) (hl : b.bids.length ≤ 4000000000000) (hl' : b.asks.length ≤ 4000000000000) :
    Calls Try.prog 70 #[.agg #[.slice A b.bids.length c, .slice A' b.asks.length c'], .agg #[.int .i64 o.id, .int .i64 o.acc, .int .i64 o.side, .int .i64 o.price, .int .i64 o.qty]] w (RetTake w (x, l, left, met, e')) := by
  rw [← hr]; exact take_bk b o A A' c c' B w h hB hl hl'
theorem takeL_qty {o : Od} : ∀ {l : List Od} {left : Int}, (∀ x ∈ l, 1 ≤ x.qty ∧ x.qty ≤ 1000) → 0 ≤ left → left ≤ 1000 → (∀ f ∈ (takeL o left l).2.1, 0 ≤ f.qty ∧ f.qty ≤ 1000) ∧ (takeL o left l).2.1.length ≤ l.length
  | [], left, _, _, _ => by simp [takeL]
  | x :: l, left, hq, h0, h1 => by
    have hx := hq x (by simp)
    unfold takeL
    split
    · simp
    split
    · simp
    split
    · simp
    split
    · refine ⟨?_, by simp⟩
      intro f hf
      simp only [List.mem_singleton] at hf
      subst hf
      simp only [fillOf]; omega
    · obtain ⟨k1, k2⟩ := takeL_qty (o := o) (l := l) (left := left - x.qty) (fun y hy => hq y (by simp [hy])) (by omega) (by omega)
      refine ⟨?_, by simp only [List.length_cons]; omega⟩
      intro f hf
      rcases List.mem_cons.1 hf with rfl | hf
      · simp only [fillOf]; omega
      · exact k1 f hf
theorem take_fills {b x : Bk} {o : Od} {l : List Fl} {left : Int} {met : Bool} (h : takeOf b o = (x, l, left, met, 0)) : (∀ f ∈ l, 0 ≤ f.qty ∧ f.qty ≤ 1000) ∧ l.length ≤ 40 := by
  unfold takeOf at h
  split at h
  · rename_i h1; injection h with _ h; injection h with _ h; injection h with _ h; injection h with _ h; exact absurd h h1
  rename_i h1
  split at h
  · rename_i h2; injection h with _ h; injection h with _ h; injection h with _ h; injection h with _ h; exact absurd h h2
  rename_i h2
  have hb := bookErr_ok.1 (show bookErr b = 0 by omega)
  have ho := ordErr_ok.1 (show ordErr o = 0 by omega)
  have hs := ho.2.2.1
  have hso := other_of hb o.side hs
  have hq : ∀ x ∈ otherOf b o.side, 1 ≤ x.qty ∧ x.qty ≤ 1000 := fun x hx => (ordErr_ok.1 (hso.ok x hx)).2.2.2.2
  obtain ⟨k1, k2⟩ := takeL_qty (o := o) (left := o.qty) hq (by omega) (by omega)
  injection h with _ h; injection h with e2 _
  rw [e2] at k1 k2
  have hlen : (otherOf b o.side).length ≤ 40 := by
    have := hb.len
    unfold otherOf; split <;> omega
  exact ⟨k1, by omega⟩

theorem take_qty {b x : Bk} {o : Od} {l : List Fl} {left : Int} {met : Bool} (h : takeOf b o = (x, l, left, met, 0)) : o.qty ≤ 1000 := by
  unfold takeOf at h
  split at h
  · rename_i h1; injection h with _ h; injection h with _ h; injection h with _ h; injection h with _ h; exact absurd h h1
  rename_i h1
  split at h
  · rename_i h2; injection h with _ h; injection h with _ h; injection h with _ h; injection h with _ h; exact absurd h h2
  rename_i h2
  have ho := ordErr_ok.1 (show ordErr o = 0 by omega)
  exact ho.2.2.2.2.2

theorem BkR.up {w : World} {B B' c c' : Nat} {A A' : Option Addr} {b : Bk} (h : BkR w B A A' c c' b) (hB : B ≤ B') : BkR w B' A A' c c' b := ⟨h.l.up hB, h.r.up hB⟩
set_option maxHeartbeats 8000000 in
set_option maxRecDepth 100000 in
theorem matchParts_walk (b : Bk) (A A' : Option Addr) (c c' : Nat) (o : Od) (n : Int) (w : World) (h0 : Rd w w.heap.size 5 A b.bids.length c (odCells b.bids)) (h0' : Rd w w.heap.size 5 A' b.asks.length c' (odCells b.asks)) (s : c * 40 ≤ reachBytes) (s' : c' * 40 ≤ reachBytes) :
    Calls Try.prog 16 #[.agg #[.slice A b.bids.length c, .slice A' b.asks.length c'], .agg #[.int .i64 o.id, .int .i64 o.acc, .int .i64 o.side, .int .i64 o.price, .int .i64 o.qty], .int .i64 n] w fun e w' => e = .returned (.bool true) ∧ Below w.heap.size w w' := by
  have h : BkR w w.heap.size A A' c c' b := ⟨h0, h0'⟩
  have hl : b.bids.length ≤ 4000000000000 := by have := h0.le; have : reachBytes = 140737488351232 := rfl; omega
  have hl' : b.asks.length ≤ 4000000000000 := by have := h0'.le; have : reachBytes = 140737488351232 := rfl; omega
  clear h0 h0' s s'
  obtain ⟨x, l, left, met, te, htake⟩ := take_tup b o
  have HTK := Lib.hid htake
  clear htake
  go_enter Try.func16, Try.ntmps16
  go_wp2_with fail
  refine calls_name ?_
  intro w2 hw2
  have hb2 : Below w.heap.size w w2 := by rw [hw2]; exact ((Below.refl _ _).alloc (Nat.le_refl _) _).alloc (by simp) _
  have hs2 : w2.heap.size = w.heap.size + 1 + 1 := by rw [hw2]; simp
  have X1 : Blk w2 w.heap.size 62 #[.slice A b.bids.length c, .slice A' b.asks.length c'] := by rw [hw2]; exact (Blk.new w _ _).alloc _
  have X2 : Blk w2 (w.heap.size + 1) 71 #[.int .i64 o.id, .int .i64 o.acc, .int .i64 o.side, .int .i64 o.price, .int .i64 o.qty] := by rw [hw2]; exact Blk.new_at _ _ _ _ (by simp)
  clear hw2
  refine (take_ref b o A A' c c' w.heap.size w2 HTK.out (h.below hb2) (by omega) hl hl').mono ?_
  rintro e w3 ⟨P, p, P', p', vf, rfl, hobk, hrow, -, hb3⟩
  have hs3 := hb3.size
  obtain ⟨⟨kX10, kX11⟩, -⟩ := X1.c2
  obtain ⟨⟨kX20, kX21, kX22, kX23, kX24⟩, -⟩ := X2.c5
  clear kX10 kX11
  replace X1 := X1.below hb3 X1.lt
  obtain ⟨⟨kX10, kX11⟩, -⟩ := X1.c2
  clear kX20 kX21 kX22 kX23 kX24
  replace X2 := X2.below hb3 X2.lt
  obtain ⟨⟨kX20, kX21, kX22, kX23, kX24⟩, -⟩ := X2.c5
  replace hb2 := hb2.trans (hb3.mono (by omega))
  obtain ⟨AF, cF, rfl⟩ := own_shape hrow
  go_wp2_with fail
  refine calls_name ?_
  intro w4 hw4
  have hb4 : Below w3.heap.size w3 w4 := by rw [hw4]; exact (Below.refl _ _).alloc (Nat.le_refl _) _
  have hs4 : w4.heap.size = w3.heap.size + 1 := by rw [hw4]; simp
  have X3 : Blk w4 w3.heap.size 62 #[.slice P x.bids.length p, .slice P' x.asks.length p'] := by rw [hw4]; exact Blk.new w3 _ _
  clear kX10 kX11
  replace X1 := X1.below hb4 X1.lt
  obtain ⟨⟨kX10, kX11⟩, -⟩ := X1.c2
  clear kX20 kX21 kX22 kX23 kX24
  replace X2 := X2.below hb4 X2.lt
  obtain ⟨⟨kX20, kX21, kX22, kX23, kX24⟩, -⟩ := X2.c5
  clear hw4
  replace hb2 := hb2.trans (hb4.mono (by omega))
  have HXR := Lib.hid (hobk.read.below hb4)
  have HLR := Lib.hid ((Rd.of_own hrow).below hb4)
  clear hb3 hb4 hobk hrow
  refine (matched_any w4).mono ?_
  rintro e w5 ⟨rfl, hb5⟩
  have hs5 := hb5.size
  clear kX10 kX11
  replace X1 := X1.below hb5 X1.lt
  obtain ⟨⟨kX10, kX11⟩, -⟩ := X1.c2
  clear kX20 kX21 kX22 kX23 kX24
  replace X2 := X2.below hb5 X2.lt
  obtain ⟨⟨kX20, kX21, kX22, kX23, kX24⟩, -⟩ := X2.c5
  replace X3 := X3.below hb5 X3.lt
  replace hb2 := hb2.trans (hb5.mono (by omega))
  replace HXR := Lib.hid (HXR.out.below (hb5.mono (by omega)))
  replace HLR := Lib.hid (HLR.out.below (hb5.mono (by omega)))
  clear hb5
  have hout : te ≠ 0 ∨ te = 0 ∧ o.qty < 2 ∨ te = 0 ∧ 2 ≤ o.qty := by omega
  rcases hout with ht | ⟨ht, hq⟩ | ⟨ht, hq⟩
  · have he' : (te != 0) = true := by simpa using ht
    clear ht
    go_wp2_with fail
    refine (matched_any w5).mono ?_
    rintro e w6 ⟨rfl, hb6⟩
    go_wp2_with fail
    go_ret
    exact ⟨rfl, hb2.trans (hb6.mono (by omega))⟩
  · subst ht
    go_wp2_with fail
    refine (matched_any w5).mono ?_
    rintro e w6 ⟨rfl, hb6⟩
    go_wp2_with fail
    go_ret
    exact ⟨rfl, hb2.trans (hb6.mono (by omega))⟩
  · subst ht
    have hq' : ¬ o.qty < 2 := by omega
    have hoq : o.qty ≤ 1000 := take_qty HTK.out
    go_wp2_with fail
    refine (atk_any n (o.qty - 1) w5 (by omega) (by omega)).mono ?_
    rintro e w6 ⟨rfl, rfl⟩
    obtain ⟨k, hk⟩ : ∃ k, n % (o.qty - 1) = k := ⟨_, rfl⟩
    have hk0 : 0 ≤ k := by rw [← hk]; exact Int.emod_nonneg _ (by omega)
    have hk1 : k < o.qty - 1 := by rw [← hk]; exact Int.emod_lt_of_pos _ (by omega)
    rw [hk]
    clear hk
    obtain ⟨y, m, some', met', ht1, k', rest, too, ht2, hleft, hl0, hr0, hs0, hmet, hof, hof0⟩ := parts_law HTK.out (n := 1 + k) (by omega) (by omega)
    have HF0 := Lib.hid (take_fills HTK.out)
    have HF1 := Lib.hid (take_fills ht1)
    have HF2 := Lib.hid (take_fills ht2)
    have HLY := Lib.hid (book_lens (take_facts ht1).1)
    have HT1 := Lib.hid ht1
    have HT2 := Lib.hid ht2
    have HMT := Lib.hid hmet
    have HOF := Lib.hid hof
    have HO0 := Lib.hid hof0
    obtain ⟨hr0, hr1⟩ := hr0
    obtain ⟨hs0, hs1⟩ := hs0
    clear ht1 ht2 hmet hof hof0 hl0 HTK
    subst hleft
    have x1 : w.heap.size < w5.heap.size := by omega
    have x2 : w.heap.size + 1 < w5.heap.size := by omega
    obtain ⟨⟨kX20, kX21, kX22, kX23, kX24⟩, fX20, fX21, fX22, fX23, fX24⟩ := X2.c5
    go_wp2_with fail
    go_region
    all_goals go_wp2_with fail
    all_goals go_region
    all_goals go_wp2_with fail
    all_goals refine calls_name ?_
    all_goals intro w6 hw6
    · skip
      have hb6 : Below w5.heap.size w5 w6 := by rw [hw6]; exact below_drewN (((Below.refl _ _).alloc (Nat.le_refl _) _).alloc (by simp) _) 2
      have hs6 : w6.heap.size = w5.heap.size + 1 + 1 := by rw [hw6]; show (World.alloc _ _).heap.size = _; simp
      have X5 : Blk w6 (w5.heap.size + 1) 71 #[.int .i64 o.id, .int .i64 o.acc, .int .i64 o.side, .int .i64 o.price, .int .i64 (o.qty - (1 + k))] := by
        rw [hw6]
        first | exact Blk.drewN (Blk.new_at _ _ _ _ (by simp)) 2 | exact ((Blk.new w5 _ _).alloc _).drewN 2
      replace X3 := X3.below hb6 X3.lt
      replace hb2 := hb2.trans (hb6.mono (by omega))
      replace HXR := Lib.hid (HXR.out.below (hb6.mono (by omega)))
      replace HLR := Lib.hid (HLR.out.below (hb6.mono (by omega)))
      clear hw6 hb6 X1 X2 kX10 kX11 kX20 kX21 kX22 kX23 kX24 fX20 fX21 fX22 fX23 fX24
      refine (take_ref b { o with qty := 1 + k } A A' c c' w.heap.size w6 HT1.out (h.below hb2) (by omega) hl hl').mono ?_
      rintro e w7 ⟨Y, yc, Y', yc', vm, rfl, hobk, hrow, -, hb7⟩
      have hs7 := hb7.size
      obtain ⟨AM, cM, rfl⟩ := own_shape hrow
      obtain ⟨⟨kX30, kX31⟩, -⟩ := X3.c2
      obtain ⟨⟨kX50, kX51, kX52, kX53, kX54⟩, -⟩ := X5.c5
      clear kX30 kX31
      replace X3 := X3.below hb7 X3.lt
      obtain ⟨⟨kX30, kX31⟩, -⟩ := X3.c2
      clear kX50 kX51 kX52 kX53 kX54
      replace X5 := X5.below hb7 X5.lt
      obtain ⟨⟨kX50, kX51, kX52, kX53, kX54⟩, -⟩ := X5.c5
      replace hb2 := hb2.trans (hb7.mono (by omega))
      replace HXR := Lib.hid (HXR.out.below (hb7.mono (by omega)))
      replace HLR := Lib.hid (HLR.out.below (hb7.mono (by omega)))
      have y1 : (w5.heap.size + 1) < w7.heap.size := by omega
      have y2 : w3.heap.size < w7.heap.size := by omega
      clear hb7
      go_wp2_with fail
      refine calls_name ?_
      intro w8 hw8
      have hb8 : Below w7.heap.size w7 w8 := by rw [hw8]; exact (Below.refl _ _).alloc (Nat.le_refl _) _
      have hs8 : w8.heap.size = w7.heap.size + 1 := by rw [hw8]; simp
      clear hw8
      have HYR := Lib.hid (hobk.read.below hb8)
      have HMR := Lib.hid ((Rd.of_own hrow).below hb8)
      clear kX30 kX31
      replace X3 := X3.below hb8 X3.lt
      obtain ⟨⟨kX30, kX31⟩, -⟩ := X3.c2
      replace hb2 := hb2.trans (hb8.mono (by omega))
      replace HXR := Lib.hid (HXR.out.below (hb8.mono (by omega)))
      replace HLR := Lib.hid (HLR.out.below (hb8.mono (by omega)))
      clear hobk hrow hb8 X5 kX50 kX51 kX52 kX53 kX54
      refine (take_ref y { o with qty := o.qty - (1 + k) } Y Y' yc yc' w7.heap.size w8 HT2.out HYR.out (by omega) HLY.out.1 HLY.out.2).mono ?_
      rintro e w9 ⟨Z, zc, Z', zc', vk, rfl, hobk, hrow, -, hb9⟩
      have hs9 := hb9.size
      obtain ⟨AK, cK, rfl⟩ := own_shape hrow
      clear kX30 kX31
      replace X3 := X3.below hb9 X3.lt
      obtain ⟨⟨kX30, kX31⟩, -⟩ := X3.c2
      replace hb2 := hb2.trans (hb9.mono (by omega))
      replace HXR := Lib.hid (HXR.out.below (hb9.mono (by omega)))
      replace HLR := Lib.hid (HLR.out.below (hb9.mono (by omega)))
      replace HMR := Lib.hid (HMR.out.below (hb9.mono (by omega)))
      have y3 : w3.heap.size < w9.heap.size := by omega
      clear hb9
      go_wp2_with fail
      refine calls_name ?_
      intro wa hwa
      have hba : Below w9.heap.size w9 wa := by rw [hwa]; exact (Below.refl _ _).alloc (Nat.le_refl _) _
      have hsa : wa.heap.size = w9.heap.size + 1 := by rw [hwa]; simp
      clear hwa
      replace HXR := Lib.hid (HXR.out.below (hba.mono (by omega)))
      replace HLR := Lib.hid (HLR.out.below (hba.mono (by omega)))
      replace HMR := Lib.hid (HMR.out.below (hba.mono (by omega)))
      have HZR := Lib.hid (hobk.read.below hba)
      have HKR := Lib.hid ((Rd.of_own hrow).below hba)
      replace hb2 := hb2.trans (hba.mono (by omega))
      clear hba hobk hrow X3 kX30 kX31
      refine (same_bk x x P P' Z Z' p p' zc zc' wa.heap.size wa (HXR.out.up (by omega)) (HZR.out.up (by omega)) (by omega)).mono ?_
      rw [sameBk_self]
      rintro e wb ⟨rfl, hbb⟩
      have hsb := hbb.size
      replace HLR := Lib.hid ((HLR.out.up (by omega)).below hbb)
      replace HMR := Lib.hid ((HMR.out.up (by omega)).below hbb)
      replace HKR := Lib.hid ((HKR.out.up (by omega)).below hbb)
      replace hb2 := hb2.trans (hbb.mono (by omega))
      clear hbb HXR HZR HYR
      have hlm := HF1.out.2
      have hlk := HF2.out.2
      have hlp : 0 < rest + some' ∧ met = too ∨ ¬ 0 < rest + some' := by
        by_cases hp : 0 < rest + some'
        · exact .inl ⟨hp, HMT.out hp⟩
        · exact .inr hp
      clear HMT
      rcases hlp with ⟨hlp, rfl⟩ | hlp
      · skip
        go_wp2_with fail
        go_loopw [110] (fun i wr => ∃ j : Nat, j ≤ l.length ∧ i = .int .i64 j ∧ Below wb.heap.size wb wr) (fun i _ => l.length - (intOf i).toNat)
        case atStart => exact ⟨0, Nat.zero_le _, rfl, Below.refl _ _⟩
        case round =>
          obtain ⟨j, hj, rfl, hbr⟩ := hrel
          have hws := hbr.size
          by_cases hlt : j < l.length
          · obtain ⟨bb, oo, f, rfl, hb, hf, k0, k1, k2, k3, k4, k5, k6⟩ := fl_at (HLR.out.below (hbr.mono (by omega))) hlt
            have x5 : bb < wr.heap.size := by omega
            have hne : (ofL l f.maker != ofL (m ++ k') f.maker) = false := by simp [HOF.out f.maker]
            have HLE := Lib.hid (HLR.out.below (hbr.mono (by omega)))
            have HME := Lib.hid (HMR.out.below (hbr.mono (by omega)))
            have HKE := Lib.hid (HKR.out.below (hbr.mono (by omega)))
            have HFQ := Lib.hid HF0.out.1
            have HCQ : Hid (∀ f ∈ m ++ k', 0 ≤ f.qty ∧ f.qty ≤ 1000) := by
              intro g hg
              rcases List.mem_append.1 hg with hg | hg
              · exact HF1.out.1 g hg
              · exact HF2.out.1 g hg
            have hl40 : l.length ≤ 1000 := by have := HF0.out.2; omega
            clear hf
            go_wp2_with fail
            refine wp_name ?_
            intro W0 hW0
            have hb0 : Below wr.heap.size wr W0 := by rw [hW0]; exact (Below.refl _ _).alloc (Nat.le_refl _) _
            have hs0 : W0.heap.size = wr.heap.size + 1 := by rw [hW0]; simp
            have X0 : Blk W0 wr.heap.size 87 #[.int .i64 f.maker, .int .i64 f.taker, .int .i64 f.macc, .int .i64 f.tacc, .int .i64 f.side, .int .i64 f.price, .int .i64 f.qty] := by rw [hW0]; exact Blk.new wr _ _
            clear hW0 k0 k1 k2 k3 k4 k5 k6
            have q0 : W0.cell? ⟨wr.heap.size, 0, none⟩ = some (.int .i64 f.maker) := X0.cell 0
            have PL : Hid (∀ W, Below W0.heap.size W0 W → Rd W W0.heap.size 7 (some ⟨bb, oo, none⟩) l.length cF (flCells l)) := fun W hW => ((HLE.out.up (by omega)).below hb0).up (by omega) |>.below hW
            have PM : Hid (∀ W, Below W0.heap.size W0 W → Rd W W0.heap.size 7 AM m.length cM (flCells m)) := fun W hW => ((HME.out.up (by omega)).below hb0).up (by omega) |>.below hW
            have PK : Hid (∀ W, Below W0.heap.size W0 W → Rd W W0.heap.size 7 AK k'.length cK (flCells k')) := fun W hW => ((HKE.out.up (by omega)).below hb0).up (by omega) |>.below hW
            have PS : Hid (∀ W, Below W0.heap.size W0 W → Below W0.heap.size W0 W ∧ W.cell? ⟨wr.heap.size, 0, none⟩ = some (.int .i64 f.maker)) := fun W hW => ⟨hW, (X0.below hW (by omega)).cell 0⟩
            have h00 : Below W0.heap.size W0 W0 := Below.refl _ _
            have PC : Hid (∀ W, Below W0.heap.size W0 W → W.cell? ⟨wr.heap.size, 0, none⟩ = some (.int .i64 f.maker)) := fun W hW => (X0.below hW (by omega)).cell 0
            have HB1 : Hid (Below W0.heap.size W0 W0.drew) := below_drewN (Below.refl _ _) 1
            have HB2 : Hid (∀ ob, Below W0.heap.size W0 ((W0.alloc ob).drew)) := fun ob => below_drewN ((Below.refl _ _).alloc (Nat.le_refl _) ob) 1
            go_wp2_with fail
            go_region_held3 (fun W => Below W0.heap.size W0 W ∧ W.cell? ⟨wr.heap.size, 0, none⟩ = some (.int .i64 f.maker))
              (first | exact PS.out _ (by assumption) | exact PS.out _ (below_drew (by assumption)) | exact PS.out _ (HB2.out _) | exact PS.out _ (Below.alloc (by assumption) (by assumption) _))
              (first
              | (go_at_call 72; (with_reducible refine (of_any (some ⟨bb, oo, none⟩) l.length cF l f.maker W0.heap.size _ (PL.out _ (by first | exact HB1.out | exact HB2.out _)) (by first | exact Nat.le_refl _ | (simp)) hl40 HFQ.out).mono ?_); rintro e W1 ⟨rfl, hb1⟩; have hB1 : Below W0.heap.size W0 W1 := (by first | exact HB1.out.trans (hb1.mono (Nat.le_refl _)) | exact (HB2.out _).trans (hb1.mono (by simp))); have q1 := PC.out _ hB1; have hs1 := hB1.size; try have z1 := (Blk.drewN (Blk.new W0 83 #[.slice AM m.length cM, .slice AK k'.length cK]) 1).below hb1 (by simp); try have z4 := z1.lt; try obtain ⟨⟨z2, z3⟩, -⟩ := z1.c2; try rw [hs0] at z2 z3 z4)
              | (go_at_call 73; (with_reducible refine (concat_fls AM AK m.length cM k'.length cK m k' W0.heap.size _ (PM.out _ (by first | assumption | exact Below.alloc (by assumption) (by assumption) _)) (PK.out _ (by first | assumption | exact Below.alloc (by assumption) (by assumption) _)) (by first | assumption | (simp; omega)) _ (by first | (simp; done) | exact z4) (by first | (simp; done) | exact z2) (by first | (simp; done) | exact z3) (by omega)).mono ?_); rintro e W2 ⟨vc, rfl, hownC, hbC⟩; obtain ⟨AC, cC, rfl⟩ := own_shape hownC; have hB2 : Below W0.heap.size W0 W2 := (by first | exact Below.trans (by assumption) (hbC.mono (by assumption)) | exact Below.trans (Below.alloc (by assumption) (by assumption) _) (hbC.mono (by simp; omega))); have q2 := PC.out _ hB2; have hs2 := hB2.size; have HOC := Lib.hid hownC; clear hownC)
              | (go_at_call 72; (with_reducible refine (of_any AC (m.length + k'.length) cC (m ++ k') f.maker W2.heap.size _ (Rd.of_own HOC.out) (Nat.le_refl _) (by omega) HCQ.out).mono ?_); rintro e W3 ⟨rfl, hb3⟩; have hB3 : Below W0.heap.size W0 W3 := hB2.trans (hb3.mono hs2)))
            all_goals go_wp2_with fail
            all_goals go_roundw
            all_goals first
              | exact ⟨j + 1, by omega, by go_num, hbr.trans ((hb0.trans (hB3.mono (by omega))).mono hws)⟩
              | (simp [intOf]; omega)
          · have HME := Lib.hid (HMR.out.below (hbr.mono (by omega)))
            have HKE := Lib.hid (HKR.out.below (hbr.mono (by omega)))
            have HCQ : Hid (∀ f ∈ m ++ k', 0 ≤ f.qty ∧ f.qty ≤ 1000) := by
              intro g hg
              rcases List.mem_append.1 hg with hg | hg
              · exact HF1.out.1 g hg
              · exact HF2.out.1 g hg
            go_wp2_with fail
            refine calls_name ?_
            intro W0 hW0
            have hb0 : Below wr.heap.size wr W0 := by rw [hW0]; exact (Below.refl _ _).alloc (Nat.le_refl _) _
            have hs0 : W0.heap.size = wr.heap.size + 1 := by rw [hW0]; simp
            have X0 : Blk W0 wr.heap.size 83 #[.slice AM m.length cM, .slice AK k'.length cK] := by rw [hW0]; exact Blk.new wr _ _
            clear hW0
            obtain ⟨⟨z2, z3⟩, -⟩ := X0.c2
            refine (concat_fls AM AK m.length cM k'.length cK m k' wr.heap.size W0 (((HME.out.up (by omega)).below hb0)) (((HKE.out.up (by omega)).below hb0)) (by omega) _ (by omega) z2 z3 (by omega)).mono ?_
            rintro e W2 ⟨vc, rfl, hownC, hbC⟩
            obtain ⟨AC, cC, rfl⟩ := own_shape hownC
            have HOC := Lib.hid hownC
            have hB2 : Below wr.heap.size wr W2 := hb0.trans (hbC.mono (by omega))
            have hs2 := hB2.size
            clear hownC hbC z2 z3
            go_wp2_with fail
            refine (of_any AC (m.length + k'.length) cC (m ++ k') 0 W2.heap.size _ (Rd.of_own HOC.out) (Nat.le_refl _) (by omega) HCQ.out).mono ?_
            rw [HO0.out]
            rintro e W3 ⟨rfl, hb3⟩
            go_wp2_with fail
            go_ret
            exact ⟨rfl, hb2.trans ((hbr.trans ((hB2.trans (hb3.mono hs2)).mono hws)).mono (by omega))⟩
      · skip
        go_wp2_with fail
        go_loopw [110] (fun i wr => ∃ j : Nat, j ≤ l.length ∧ i = .int .i64 j ∧ Below wb.heap.size wb wr) (fun i _ => l.length - (intOf i).toNat)
        case atStart => exact ⟨0, Nat.zero_le _, rfl, Below.refl _ _⟩
        case round =>
          obtain ⟨j, hj, rfl, hbr⟩ := hrel
          have hws := hbr.size
          by_cases hlt : j < l.length
          · obtain ⟨bb, oo, f, rfl, hb, hf, k0, k1, k2, k3, k4, k5, k6⟩ := fl_at (HLR.out.below (hbr.mono (by omega))) hlt
            have x5 : bb < wr.heap.size := by omega
            have hne : (ofL l f.maker != ofL (m ++ k') f.maker) = false := by simp [HOF.out f.maker]
            have HLE := Lib.hid (HLR.out.below (hbr.mono (by omega)))
            have HME := Lib.hid (HMR.out.below (hbr.mono (by omega)))
            have HKE := Lib.hid (HKR.out.below (hbr.mono (by omega)))
            have HFQ := Lib.hid HF0.out.1
            have HCQ : Hid (∀ f ∈ m ++ k', 0 ≤ f.qty ∧ f.qty ≤ 1000) := by
              intro g hg
              rcases List.mem_append.1 hg with hg | hg
              · exact HF1.out.1 g hg
              · exact HF2.out.1 g hg
            have hl40 : l.length ≤ 1000 := by have := HF0.out.2; omega
            clear hf
            go_wp2_with fail
            refine wp_name ?_
            intro W0 hW0
            have hb0 : Below wr.heap.size wr W0 := by rw [hW0]; exact (Below.refl _ _).alloc (Nat.le_refl _) _
            have hs0 : W0.heap.size = wr.heap.size + 1 := by rw [hW0]; simp
            have X0 : Blk W0 wr.heap.size 87 #[.int .i64 f.maker, .int .i64 f.taker, .int .i64 f.macc, .int .i64 f.tacc, .int .i64 f.side, .int .i64 f.price, .int .i64 f.qty] := by rw [hW0]; exact Blk.new wr _ _
            clear hW0 k0 k1 k2 k3 k4 k5 k6
            have q0 : W0.cell? ⟨wr.heap.size, 0, none⟩ = some (.int .i64 f.maker) := X0.cell 0
            have PL : Hid (∀ W, Below W0.heap.size W0 W → Rd W W0.heap.size 7 (some ⟨bb, oo, none⟩) l.length cF (flCells l)) := fun W hW => ((HLE.out.up (by omega)).below hb0).up (by omega) |>.below hW
            have PM : Hid (∀ W, Below W0.heap.size W0 W → Rd W W0.heap.size 7 AM m.length cM (flCells m)) := fun W hW => ((HME.out.up (by omega)).below hb0).up (by omega) |>.below hW
            have PK : Hid (∀ W, Below W0.heap.size W0 W → Rd W W0.heap.size 7 AK k'.length cK (flCells k')) := fun W hW => ((HKE.out.up (by omega)).below hb0).up (by omega) |>.below hW
            have PS : Hid (∀ W, Below W0.heap.size W0 W → Below W0.heap.size W0 W ∧ W.cell? ⟨wr.heap.size, 0, none⟩ = some (.int .i64 f.maker)) := fun W hW => ⟨hW, (X0.below hW (by omega)).cell 0⟩
            have h00 : Below W0.heap.size W0 W0 := Below.refl _ _
            have PC : Hid (∀ W, Below W0.heap.size W0 W → W.cell? ⟨wr.heap.size, 0, none⟩ = some (.int .i64 f.maker)) := fun W hW => (X0.below hW (by omega)).cell 0
            have HB1 : Hid (Below W0.heap.size W0 W0.drew) := below_drewN (Below.refl _ _) 1
            have HB2 : Hid (∀ ob, Below W0.heap.size W0 ((W0.alloc ob).drew)) := fun ob => below_drewN ((Below.refl _ _).alloc (Nat.le_refl _) ob) 1
            go_wp2_with fail
            go_region_held3 (fun W => Below W0.heap.size W0 W ∧ W.cell? ⟨wr.heap.size, 0, none⟩ = some (.int .i64 f.maker))
              (first | exact PS.out _ (by assumption) | exact PS.out _ (below_drew (by assumption)) | exact PS.out _ (HB2.out _) | exact PS.out _ (Below.alloc (by assumption) (by assumption) _))
              (first
              | (go_at_call 72; (with_reducible refine (of_any (some ⟨bb, oo, none⟩) l.length cF l f.maker W0.heap.size _ (PL.out _ (by first | exact HB1.out | exact HB2.out _)) (by first | exact Nat.le_refl _ | (simp)) hl40 HFQ.out).mono ?_); rintro e W1 ⟨rfl, hb1⟩; have hB1 : Below W0.heap.size W0 W1 := (by first | exact HB1.out.trans (hb1.mono (Nat.le_refl _)) | exact (HB2.out _).trans (hb1.mono (by simp))); have q1 := PC.out _ hB1; have hs1 := hB1.size; try have z1 := (Blk.drewN (Blk.new W0 83 #[.slice AM m.length cM, .slice AK k'.length cK]) 1).below hb1 (by simp); try have z4 := z1.lt; try obtain ⟨⟨z2, z3⟩, -⟩ := z1.c2; try rw [hs0] at z2 z3 z4)
              | (go_at_call 73; (with_reducible refine (concat_fls AM AK m.length cM k'.length cK m k' W0.heap.size _ (PM.out _ (by first | assumption | exact Below.alloc (by assumption) (by assumption) _)) (PK.out _ (by first | assumption | exact Below.alloc (by assumption) (by assumption) _)) (by first | assumption | (simp; omega)) _ (by first | (simp; done) | exact z4) (by first | (simp; done) | exact z2) (by first | (simp; done) | exact z3) (by omega)).mono ?_); rintro e W2 ⟨vc, rfl, hownC, hbC⟩; obtain ⟨AC, cC, rfl⟩ := own_shape hownC; have hB2 : Below W0.heap.size W0 W2 := (by first | exact Below.trans (by assumption) (hbC.mono (by assumption)) | exact Below.trans (Below.alloc (by assumption) (by assumption) _) (hbC.mono (by simp; omega))); have q2 := PC.out _ hB2; have hs2 := hB2.size; have HOC := Lib.hid hownC; clear hownC)
              | (go_at_call 72; (with_reducible refine (of_any AC (m.length + k'.length) cC (m ++ k') f.maker W2.heap.size _ (Rd.of_own HOC.out) (Nat.le_refl _) (by omega) HCQ.out).mono ?_); rintro e W3 ⟨rfl, hb3⟩; have hB3 : Below W0.heap.size W0 W3 := hB2.trans (hb3.mono hs2)))
            all_goals go_wp2_with fail
            all_goals go_roundw
            all_goals first
              | exact ⟨j + 1, by omega, by go_num, hbr.trans ((hb0.trans (hB3.mono (by omega))).mono hws)⟩
              | (simp [intOf]; omega)
          · have HME := Lib.hid (HMR.out.below (hbr.mono (by omega)))
            have HKE := Lib.hid (HKR.out.below (hbr.mono (by omega)))
            have HCQ : Hid (∀ f ∈ m ++ k', 0 ≤ f.qty ∧ f.qty ≤ 1000) := by
              intro g hg
              rcases List.mem_append.1 hg with hg | hg
              · exact HF1.out.1 g hg
              · exact HF2.out.1 g hg
            go_wp2_with fail
            refine calls_name ?_
            intro W0 hW0
            have hb0 : Below wr.heap.size wr W0 := by rw [hW0]; exact (Below.refl _ _).alloc (Nat.le_refl _) _
            have hs0 : W0.heap.size = wr.heap.size + 1 := by rw [hW0]; simp
            have X0 : Blk W0 wr.heap.size 83 #[.slice AM m.length cM, .slice AK k'.length cK] := by rw [hW0]; exact Blk.new wr _ _
            clear hW0
            obtain ⟨⟨z2, z3⟩, -⟩ := X0.c2
            refine (concat_fls AM AK m.length cM k'.length cK m k' wr.heap.size W0 (((HME.out.up (by omega)).below hb0)) (((HKE.out.up (by omega)).below hb0)) (by omega) _ (by omega) z2 z3 (by omega)).mono ?_
            rintro e W2 ⟨vc, rfl, hownC, hbC⟩
            obtain ⟨AC, cC, rfl⟩ := own_shape hownC
            have HOC := Lib.hid hownC
            have hB2 : Below wr.heap.size wr W2 := hb0.trans (hbC.mono (by omega))
            have hs2 := hB2.size
            clear hownC hbC z2 z3
            go_wp2_with fail
            refine (of_any AC (m.length + k'.length) cC (m ++ k') 0 W2.heap.size _ (Rd.of_own HOC.out) (Nat.le_refl _) (by omega) HCQ.out).mono ?_
            rw [HO0.out]
            rintro e W3 ⟨rfl, hb3⟩
            go_wp2_with fail
            go_ret
            exact ⟨rfl, hb2.trans ((hbr.trans ((hB2.trans (hb3.mono hs2)).mono hws)).mono (by omega))⟩
    · skip
      have hb6 : Below w5.heap.size w5 w6 := by rw [hw6]; exact below_drewN (((Below.refl _ _).alloc (Nat.le_refl _) _).alloc (by simp) _) 2
      have hs6 : w6.heap.size = w5.heap.size + 1 + 1 := by rw [hw6]; show (World.alloc _ _).heap.size = _; simp
      have X5 : Blk w6 w5.heap.size 71 #[.int .i64 o.id, .int .i64 o.acc, .int .i64 o.side, .int .i64 o.price, .int .i64 (o.qty - (1 + k))] := by
        rw [hw6]
        first | exact Blk.drewN (Blk.new_at _ _ _ _ (by simp)) 2 | exact ((Blk.new w5 _ _).alloc _).drewN 2
      replace X3 := X3.below hb6 X3.lt
      replace hb2 := hb2.trans (hb6.mono (by omega))
      replace HXR := Lib.hid (HXR.out.below (hb6.mono (by omega)))
      replace HLR := Lib.hid (HLR.out.below (hb6.mono (by omega)))
      clear hw6 hb6 X1 X2 kX10 kX11 kX20 kX21 kX22 kX23 kX24 fX20 fX21 fX22 fX23 fX24
      refine (take_ref b { o with qty := 1 + k } A A' c c' w.heap.size w6 HT1.out (h.below hb2) (by omega) hl hl').mono ?_
      rintro e w7 ⟨Y, yc, Y', yc', vm, rfl, hobk, hrow, -, hb7⟩
      have hs7 := hb7.size
      obtain ⟨AM, cM, rfl⟩ := own_shape hrow
      obtain ⟨⟨kX30, kX31⟩, -⟩ := X3.c2
      obtain ⟨⟨kX50, kX51, kX52, kX53, kX54⟩, -⟩ := X5.c5
      clear kX30 kX31
      replace X3 := X3.below hb7 X3.lt
      obtain ⟨⟨kX30, kX31⟩, -⟩ := X3.c2
      clear kX50 kX51 kX52 kX53 kX54
      replace X5 := X5.below hb7 X5.lt
      obtain ⟨⟨kX50, kX51, kX52, kX53, kX54⟩, -⟩ := X5.c5
      replace hb2 := hb2.trans (hb7.mono (by omega))
      replace HXR := Lib.hid (HXR.out.below (hb7.mono (by omega)))
      replace HLR := Lib.hid (HLR.out.below (hb7.mono (by omega)))
      have y1 : w5.heap.size < w7.heap.size := by omega
      have y2 : w3.heap.size < w7.heap.size := by omega
      clear hb7
      go_wp2_with fail
      refine calls_name ?_
      intro w8 hw8
      have hb8 : Below w7.heap.size w7 w8 := by rw [hw8]; exact (Below.refl _ _).alloc (Nat.le_refl _) _
      have hs8 : w8.heap.size = w7.heap.size + 1 := by rw [hw8]; simp
      clear hw8
      have HYR := Lib.hid (hobk.read.below hb8)
      have HMR := Lib.hid ((Rd.of_own hrow).below hb8)
      clear kX30 kX31
      replace X3 := X3.below hb8 X3.lt
      obtain ⟨⟨kX30, kX31⟩, -⟩ := X3.c2
      replace hb2 := hb2.trans (hb8.mono (by omega))
      replace HXR := Lib.hid (HXR.out.below (hb8.mono (by omega)))
      replace HLR := Lib.hid (HLR.out.below (hb8.mono (by omega)))
      clear hobk hrow hb8 X5 kX50 kX51 kX52 kX53 kX54
      refine (take_ref y { o with qty := o.qty - (1 + k) } Y Y' yc yc' w7.heap.size w8 HT2.out HYR.out (by omega) HLY.out.1 HLY.out.2).mono ?_
      rintro e w9 ⟨Z, zc, Z', zc', vk, rfl, hobk, hrow, -, hb9⟩
      have hs9 := hb9.size
      obtain ⟨AK, cK, rfl⟩ := own_shape hrow
      clear kX30 kX31
      replace X3 := X3.below hb9 X3.lt
      obtain ⟨⟨kX30, kX31⟩, -⟩ := X3.c2
      replace hb2 := hb2.trans (hb9.mono (by omega))
      replace HXR := Lib.hid (HXR.out.below (hb9.mono (by omega)))
      replace HLR := Lib.hid (HLR.out.below (hb9.mono (by omega)))
      replace HMR := Lib.hid (HMR.out.below (hb9.mono (by omega)))
      have y3 : w3.heap.size < w9.heap.size := by omega
      clear hb9
      go_wp2_with fail
      refine calls_name ?_
      intro wa hwa
      have hba : Below w9.heap.size w9 wa := by rw [hwa]; exact (Below.refl _ _).alloc (Nat.le_refl _) _
      have hsa : wa.heap.size = w9.heap.size + 1 := by rw [hwa]; simp
      clear hwa
      replace HXR := Lib.hid (HXR.out.below (hba.mono (by omega)))
      replace HLR := Lib.hid (HLR.out.below (hba.mono (by omega)))
      replace HMR := Lib.hid (HMR.out.below (hba.mono (by omega)))
      have HZR := Lib.hid (hobk.read.below hba)
      have HKR := Lib.hid ((Rd.of_own hrow).below hba)
      replace hb2 := hb2.trans (hba.mono (by omega))
      clear hba hobk hrow X3 kX30 kX31
      refine (same_bk x x P P' Z Z' p p' zc zc' wa.heap.size wa (HXR.out.up (by omega)) (HZR.out.up (by omega)) (by omega)).mono ?_
      rw [sameBk_self]
      rintro e wb ⟨rfl, hbb⟩
      have hsb := hbb.size
      replace HLR := Lib.hid ((HLR.out.up (by omega)).below hbb)
      replace HMR := Lib.hid ((HMR.out.up (by omega)).below hbb)
      replace HKR := Lib.hid ((HKR.out.up (by omega)).below hbb)
      replace hb2 := hb2.trans (hbb.mono (by omega))
      clear hbb HXR HZR HYR
      have hlm := HF1.out.2
      have hlk := HF2.out.2
      have hlp : 0 < rest + some' ∧ met = too ∨ ¬ 0 < rest + some' := by
        by_cases hp : 0 < rest + some'
        · exact .inl ⟨hp, HMT.out hp⟩
        · exact .inr hp
      clear HMT
      rcases hlp with ⟨hlp, rfl⟩ | hlp
      · skip
        go_wp2_with fail
        go_loopw [110] (fun i wr => ∃ j : Nat, j ≤ l.length ∧ i = .int .i64 j ∧ Below wb.heap.size wb wr) (fun i _ => l.length - (intOf i).toNat)
        case atStart => exact ⟨0, Nat.zero_le _, rfl, Below.refl _ _⟩
        case round =>
          obtain ⟨j, hj, rfl, hbr⟩ := hrel
          have hws := hbr.size
          by_cases hlt : j < l.length
          · obtain ⟨bb, oo, f, rfl, hb, hf, k0, k1, k2, k3, k4, k5, k6⟩ := fl_at (HLR.out.below (hbr.mono (by omega))) hlt
            have x5 : bb < wr.heap.size := by omega
            have hne : (ofL l f.maker != ofL (m ++ k') f.maker) = false := by simp [HOF.out f.maker]
            have HLE := Lib.hid (HLR.out.below (hbr.mono (by omega)))
            have HME := Lib.hid (HMR.out.below (hbr.mono (by omega)))
            have HKE := Lib.hid (HKR.out.below (hbr.mono (by omega)))
            have HFQ := Lib.hid HF0.out.1
            have HCQ : Hid (∀ f ∈ m ++ k', 0 ≤ f.qty ∧ f.qty ≤ 1000) := by
              intro g hg
              rcases List.mem_append.1 hg with hg | hg
              · exact HF1.out.1 g hg
              · exact HF2.out.1 g hg
            have hl40 : l.length ≤ 1000 := by have := HF0.out.2; omega
            clear hf
            go_wp2_with fail
            refine wp_name ?_
            intro W0 hW0
            have hb0 : Below wr.heap.size wr W0 := by rw [hW0]; exact (Below.refl _ _).alloc (Nat.le_refl _) _
            have hs0 : W0.heap.size = wr.heap.size + 1 := by rw [hW0]; simp
            have X0 : Blk W0 wr.heap.size 87 #[.int .i64 f.maker, .int .i64 f.taker, .int .i64 f.macc, .int .i64 f.tacc, .int .i64 f.side, .int .i64 f.price, .int .i64 f.qty] := by rw [hW0]; exact Blk.new wr _ _
            clear hW0 k0 k1 k2 k3 k4 k5 k6
            have q0 : W0.cell? ⟨wr.heap.size, 0, none⟩ = some (.int .i64 f.maker) := X0.cell 0
            have PL : Hid (∀ W, Below W0.heap.size W0 W → Rd W W0.heap.size 7 (some ⟨bb, oo, none⟩) l.length cF (flCells l)) := fun W hW => ((HLE.out.up (by omega)).below hb0).up (by omega) |>.below hW
            have PM : Hid (∀ W, Below W0.heap.size W0 W → Rd W W0.heap.size 7 AM m.length cM (flCells m)) := fun W hW => ((HME.out.up (by omega)).below hb0).up (by omega) |>.below hW
            have PK : Hid (∀ W, Below W0.heap.size W0 W → Rd W W0.heap.size 7 AK k'.length cK (flCells k')) := fun W hW => ((HKE.out.up (by omega)).below hb0).up (by omega) |>.below hW
            have PS : Hid (∀ W, Below W0.heap.size W0 W → Below W0.heap.size W0 W ∧ W.cell? ⟨wr.heap.size, 0, none⟩ = some (.int .i64 f.maker)) := fun W hW => ⟨hW, (X0.below hW (by omega)).cell 0⟩
            have h00 : Below W0.heap.size W0 W0 := Below.refl _ _
            have PC : Hid (∀ W, Below W0.heap.size W0 W → W.cell? ⟨wr.heap.size, 0, none⟩ = some (.int .i64 f.maker)) := fun W hW => (X0.below hW (by omega)).cell 0
            have HB1 : Hid (Below W0.heap.size W0 W0.drew) := below_drewN (Below.refl _ _) 1
            have HB2 : Hid (∀ ob, Below W0.heap.size W0 ((W0.alloc ob).drew)) := fun ob => below_drewN ((Below.refl _ _).alloc (Nat.le_refl _) ob) 1
            go_wp2_with fail
            go_region_held3 (fun W => Below W0.heap.size W0 W ∧ W.cell? ⟨wr.heap.size, 0, none⟩ = some (.int .i64 f.maker))
              (first | exact PS.out _ (by assumption) | exact PS.out _ (below_drew (by assumption)) | exact PS.out _ (HB2.out _) | exact PS.out _ (Below.alloc (by assumption) (by assumption) _))
              (first
              | (go_at_call 72; (with_reducible refine (of_any (some ⟨bb, oo, none⟩) l.length cF l f.maker W0.heap.size _ (PL.out _ (by first | exact HB1.out | exact HB2.out _)) (by first | exact Nat.le_refl _ | (simp)) hl40 HFQ.out).mono ?_); rintro e W1 ⟨rfl, hb1⟩; have hB1 : Below W0.heap.size W0 W1 := (by first | exact HB1.out.trans (hb1.mono (Nat.le_refl _)) | exact (HB2.out _).trans (hb1.mono (by simp))); have q1 := PC.out _ hB1; have hs1 := hB1.size; try have z1 := (Blk.drewN (Blk.new W0 83 #[.slice AM m.length cM, .slice AK k'.length cK]) 1).below hb1 (by simp); try have z4 := z1.lt; try obtain ⟨⟨z2, z3⟩, -⟩ := z1.c2; try rw [hs0] at z2 z3 z4)
              | (go_at_call 73; (with_reducible refine (concat_fls AM AK m.length cM k'.length cK m k' W0.heap.size _ (PM.out _ (by first | assumption | exact Below.alloc (by assumption) (by assumption) _)) (PK.out _ (by first | assumption | exact Below.alloc (by assumption) (by assumption) _)) (by first | assumption | (simp; omega)) _ (by first | (simp; done) | exact z4) (by first | (simp; done) | exact z2) (by first | (simp; done) | exact z3) (by omega)).mono ?_); rintro e W2 ⟨vc, rfl, hownC, hbC⟩; obtain ⟨AC, cC, rfl⟩ := own_shape hownC; have hB2 : Below W0.heap.size W0 W2 := (by first | exact Below.trans (by assumption) (hbC.mono (by assumption)) | exact Below.trans (Below.alloc (by assumption) (by assumption) _) (hbC.mono (by simp; omega))); have q2 := PC.out _ hB2; have hs2 := hB2.size; have HOC := Lib.hid hownC; clear hownC)
              | (go_at_call 72; (with_reducible refine (of_any AC (m.length + k'.length) cC (m ++ k') f.maker W2.heap.size _ (Rd.of_own HOC.out) (Nat.le_refl _) (by omega) HCQ.out).mono ?_); rintro e W3 ⟨rfl, hb3⟩; have hB3 : Below W0.heap.size W0 W3 := hB2.trans (hb3.mono hs2)))
            all_goals go_wp2_with fail
            all_goals go_roundw
            all_goals first
              | exact ⟨j + 1, by omega, by go_num, hbr.trans ((hb0.trans (hB3.mono (by omega))).mono hws)⟩
              | (simp [intOf]; omega)
          · have HME := Lib.hid (HMR.out.below (hbr.mono (by omega)))
            have HKE := Lib.hid (HKR.out.below (hbr.mono (by omega)))
            have HCQ : Hid (∀ f ∈ m ++ k', 0 ≤ f.qty ∧ f.qty ≤ 1000) := by
              intro g hg
              rcases List.mem_append.1 hg with hg | hg
              · exact HF1.out.1 g hg
              · exact HF2.out.1 g hg
            go_wp2_with fail
            refine calls_name ?_
            intro W0 hW0
            have hb0 : Below wr.heap.size wr W0 := by rw [hW0]; exact (Below.refl _ _).alloc (Nat.le_refl _) _
            have hs0 : W0.heap.size = wr.heap.size + 1 := by rw [hW0]; simp
            have X0 : Blk W0 wr.heap.size 83 #[.slice AM m.length cM, .slice AK k'.length cK] := by rw [hW0]; exact Blk.new wr _ _
            clear hW0
            obtain ⟨⟨z2, z3⟩, -⟩ := X0.c2
            refine (concat_fls AM AK m.length cM k'.length cK m k' wr.heap.size W0 (((HME.out.up (by omega)).below hb0)) (((HKE.out.up (by omega)).below hb0)) (by omega) _ (by omega) z2 z3 (by omega)).mono ?_
            rintro e W2 ⟨vc, rfl, hownC, hbC⟩
            obtain ⟨AC, cC, rfl⟩ := own_shape hownC
            have HOC := Lib.hid hownC
            have hB2 : Below wr.heap.size wr W2 := hb0.trans (hbC.mono (by omega))
            have hs2 := hB2.size
            clear hownC hbC z2 z3
            go_wp2_with fail
            refine (of_any AC (m.length + k'.length) cC (m ++ k') 0 W2.heap.size _ (Rd.of_own HOC.out) (Nat.le_refl _) (by omega) HCQ.out).mono ?_
            rw [HO0.out]
            rintro e W3 ⟨rfl, hb3⟩
            go_wp2_with fail
            go_ret
            exact ⟨rfl, hb2.trans ((hbr.trans ((hB2.trans (hb3.mono hs2)).mono hws)).mono (by omega))⟩
      · skip
        go_wp2_with fail
        go_loopw [110] (fun i wr => ∃ j : Nat, j ≤ l.length ∧ i = .int .i64 j ∧ Below wb.heap.size wb wr) (fun i _ => l.length - (intOf i).toNat)
        case atStart => exact ⟨0, Nat.zero_le _, rfl, Below.refl _ _⟩
        case round =>
          obtain ⟨j, hj, rfl, hbr⟩ := hrel
          have hws := hbr.size
          by_cases hlt : j < l.length
          · obtain ⟨bb, oo, f, rfl, hb, hf, k0, k1, k2, k3, k4, k5, k6⟩ := fl_at (HLR.out.below (hbr.mono (by omega))) hlt
            have x5 : bb < wr.heap.size := by omega
            have hne : (ofL l f.maker != ofL (m ++ k') f.maker) = false := by simp [HOF.out f.maker]
            have HLE := Lib.hid (HLR.out.below (hbr.mono (by omega)))
            have HME := Lib.hid (HMR.out.below (hbr.mono (by omega)))
            have HKE := Lib.hid (HKR.out.below (hbr.mono (by omega)))
            have HFQ := Lib.hid HF0.out.1
            have HCQ : Hid (∀ f ∈ m ++ k', 0 ≤ f.qty ∧ f.qty ≤ 1000) := by
              intro g hg
              rcases List.mem_append.1 hg with hg | hg
              · exact HF1.out.1 g hg
              · exact HF2.out.1 g hg
            have hl40 : l.length ≤ 1000 := by have := HF0.out.2; omega
            clear hf
            go_wp2_with fail
            refine wp_name ?_
            intro W0 hW0
            have hb0 : Below wr.heap.size wr W0 := by rw [hW0]; exact (Below.refl _ _).alloc (Nat.le_refl _) _
            have hs0 : W0.heap.size = wr.heap.size + 1 := by rw [hW0]; simp
            have X0 : Blk W0 wr.heap.size 87 #[.int .i64 f.maker, .int .i64 f.taker, .int .i64 f.macc, .int .i64 f.tacc, .int .i64 f.side, .int .i64 f.price, .int .i64 f.qty] := by rw [hW0]; exact Blk.new wr _ _
            clear hW0 k0 k1 k2 k3 k4 k5 k6
            have q0 : W0.cell? ⟨wr.heap.size, 0, none⟩ = some (.int .i64 f.maker) := X0.cell 0
            have PL : Hid (∀ W, Below W0.heap.size W0 W → Rd W W0.heap.size 7 (some ⟨bb, oo, none⟩) l.length cF (flCells l)) := fun W hW => ((HLE.out.up (by omega)).below hb0).up (by omega) |>.below hW
            have PM : Hid (∀ W, Below W0.heap.size W0 W → Rd W W0.heap.size 7 AM m.length cM (flCells m)) := fun W hW => ((HME.out.up (by omega)).below hb0).up (by omega) |>.below hW
            have PK : Hid (∀ W, Below W0.heap.size W0 W → Rd W W0.heap.size 7 AK k'.length cK (flCells k')) := fun W hW => ((HKE.out.up (by omega)).below hb0).up (by omega) |>.below hW
            have PS : Hid (∀ W, Below W0.heap.size W0 W → Below W0.heap.size W0 W ∧ W.cell? ⟨wr.heap.size, 0, none⟩ = some (.int .i64 f.maker)) := fun W hW => ⟨hW, (X0.below hW (by omega)).cell 0⟩
            have h00 : Below W0.heap.size W0 W0 := Below.refl _ _
            have PC : Hid (∀ W, Below W0.heap.size W0 W → W.cell? ⟨wr.heap.size, 0, none⟩ = some (.int .i64 f.maker)) := fun W hW => (X0.below hW (by omega)).cell 0
            have HB1 : Hid (Below W0.heap.size W0 W0.drew) := below_drewN (Below.refl _ _) 1
            have HB2 : Hid (∀ ob, Below W0.heap.size W0 ((W0.alloc ob).drew)) := fun ob => below_drewN ((Below.refl _ _).alloc (Nat.le_refl _) ob) 1
            go_wp2_with fail
            go_region_held3 (fun W => Below W0.heap.size W0 W ∧ W.cell? ⟨wr.heap.size, 0, none⟩ = some (.int .i64 f.maker))
              (first | exact PS.out _ (by assumption) | exact PS.out _ (below_drew (by assumption)) | exact PS.out _ (HB2.out _) | exact PS.out _ (Below.alloc (by assumption) (by assumption) _))
              (first
              | (go_at_call 72; (with_reducible refine (of_any (some ⟨bb, oo, none⟩) l.length cF l f.maker W0.heap.size _ (PL.out _ (by first | exact HB1.out | exact HB2.out _)) (by first | exact Nat.le_refl _ | (simp)) hl40 HFQ.out).mono ?_); rintro e W1 ⟨rfl, hb1⟩; have hB1 : Below W0.heap.size W0 W1 := (by first | exact HB1.out.trans (hb1.mono (Nat.le_refl _)) | exact (HB2.out _).trans (hb1.mono (by simp))); have q1 := PC.out _ hB1; have hs1 := hB1.size; try have z1 := (Blk.drewN (Blk.new W0 83 #[.slice AM m.length cM, .slice AK k'.length cK]) 1).below hb1 (by simp); try have z4 := z1.lt; try obtain ⟨⟨z2, z3⟩, -⟩ := z1.c2; try rw [hs0] at z2 z3 z4)
              | (go_at_call 73; (with_reducible refine (concat_fls AM AK m.length cM k'.length cK m k' W0.heap.size _ (PM.out _ (by first | assumption | exact Below.alloc (by assumption) (by assumption) _)) (PK.out _ (by first | assumption | exact Below.alloc (by assumption) (by assumption) _)) (by first | assumption | (simp; omega)) _ (by first | (simp; done) | exact z4) (by first | (simp; done) | exact z2) (by first | (simp; done) | exact z3) (by omega)).mono ?_); rintro e W2 ⟨vc, rfl, hownC, hbC⟩; obtain ⟨AC, cC, rfl⟩ := own_shape hownC; have hB2 : Below W0.heap.size W0 W2 := (by first | exact Below.trans (by assumption) (hbC.mono (by assumption)) | exact Below.trans (Below.alloc (by assumption) (by assumption) _) (hbC.mono (by simp; omega))); have q2 := PC.out _ hB2; have hs2 := hB2.size; have HOC := Lib.hid hownC; clear hownC)
              | (go_at_call 72; (with_reducible refine (of_any AC (m.length + k'.length) cC (m ++ k') f.maker W2.heap.size _ (Rd.of_own HOC.out) (Nat.le_refl _) (by omega) HCQ.out).mono ?_); rintro e W3 ⟨rfl, hb3⟩; have hB3 : Below W0.heap.size W0 W3 := hB2.trans (hb3.mono hs2)))
            all_goals go_wp2_with fail
            all_goals go_roundw
            all_goals first
              | exact ⟨j + 1, by omega, by go_num, hbr.trans ((hb0.trans (hB3.mono (by omega))).mono hws)⟩
              | (simp [intOf]; omega)
          · have HME := Lib.hid (HMR.out.below (hbr.mono (by omega)))
            have HKE := Lib.hid (HKR.out.below (hbr.mono (by omega)))
            have HCQ : Hid (∀ f ∈ m ++ k', 0 ≤ f.qty ∧ f.qty ≤ 1000) := by
              intro g hg
              rcases List.mem_append.1 hg with hg | hg
              · exact HF1.out.1 g hg
              · exact HF2.out.1 g hg
            go_wp2_with fail
            refine calls_name ?_
            intro W0 hW0
            have hb0 : Below wr.heap.size wr W0 := by rw [hW0]; exact (Below.refl _ _).alloc (Nat.le_refl _) _
            have hs0 : W0.heap.size = wr.heap.size + 1 := by rw [hW0]; simp
            have X0 : Blk W0 wr.heap.size 83 #[.slice AM m.length cM, .slice AK k'.length cK] := by rw [hW0]; exact Blk.new wr _ _
            clear hW0
            obtain ⟨⟨z2, z3⟩, -⟩ := X0.c2
            refine (concat_fls AM AK m.length cM k'.length cK m k' wr.heap.size W0 (((HME.out.up (by omega)).below hb0)) (((HKE.out.up (by omega)).below hb0)) (by omega) _ (by omega) z2 z3 (by omega)).mono ?_
            rintro e W2 ⟨vc, rfl, hownC, hbC⟩
            obtain ⟨AC, cC, rfl⟩ := own_shape hownC
            have HOC := Lib.hid hownC
            have hB2 : Below wr.heap.size wr W2 := hb0.trans (hbC.mono (by omega))
            have hs2 := hB2.size
            clear hownC hbC z2 z3
            go_wp2_with fail
            refine (of_any AC (m.length + k'.length) cC (m ++ k') 0 W2.heap.size _ (Rd.of_own HOC.out) (Nat.le_refl _) (by omega) HCQ.out).mono ?_
            rw [HO0.out]
            rintro e W3 ⟨rfl, hb3⟩
            go_wp2_with fail
            go_ret
            exact ⟨rfl, hb2.trans ((hbr.trans ((hB2.trans (hb3.mono hs2)).mono hws)).mono (by omega))⟩
end Go.Proofs.Ytockodmbhnlheaa
