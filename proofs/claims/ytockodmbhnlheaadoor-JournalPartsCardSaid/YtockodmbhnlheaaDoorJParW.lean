/-
  The law JournalParts, walked.
-/
import Derived.Test.YtockodmbhnlheaaDoorJLawd
namespace Go.Proofs.YtockodmbhnlheaaDoor
open Go.RowKit

theorem cmCells_at : ∀ {L : List Cm} {i : Nat} {a : Cm}, L[i]? = some a → ∀ j u, (cmCells [a])[j]? = some u → (cmCells L)[i * 11 + j]? = some u
  | [], i, a, h, _, _, _ => by simp at h
  | o :: l, 0, a, h, j, u, hj => by
    simp only [List.getElem?_cons_zero, Option.some.injEq] at h
    subst h
    have hlt : j < 11 := by have := (List.getElem?_eq_some_iff.1 hj).1; simpa [cmCells] using this
    rw [show cmCells (o :: l) = cmCells [o] ++ cmCells l from cmCells_app l [o], List.getElem?_append_left (by rw [cmCells_len]; simp; omega)]
    rw [Nat.zero_mul, Nat.zero_add]; exact hj
  | o :: l, i + 1, a, h, j, u, hj => by
    have h' : l[i]? = some a := by simpa using h
    have ih := cmCells_at h' j u hj
    rw [show cmCells (o :: l) = cmCells [o] ++ cmCells l from cmCells_app l [o], List.getElem?_append_right (by rw [cmCells_len]; simp; omega)]
    rw [cmCells_len, ← ih]; congr 1; simp; omega
def CmAt (w : World) (b o : Nat) (a : Cm) : Prop :=
  w.cell? ⟨b, o, none⟩ = some (.int .i64 a.kind) ∧ w.cell? ⟨b, o + 1, none⟩ = some (.int .i64 a.acc) ∧ w.cell? ⟨b, o + 2, none⟩ = some (.int .i64 a.market) ∧ w.cell? ⟨b, o + 3, none⟩ = some (.int .i64 a.n) ∧
    w.cell? ⟨b, o + 4, none⟩ = some (.int .i64 a.o.id) ∧ w.cell? ⟨b, o + 5, none⟩ = some (.int .i64 a.o.acc) ∧ w.cell? ⟨b, o + 6, none⟩ = some (.int .i64 a.o.side) ∧ w.cell? ⟨b, o + 7, none⟩ = some (.int .i64 a.o.price) ∧ w.cell? ⟨b, o + 8, none⟩ = some (.int .i64 a.o.qty) ∧
    w.cell? ⟨b, o + 9, none⟩ = some (.int .i64 a.how) ∧ w.cell? ⟨b, o + 10, none⟩ = some (.bool a.reduce)
theorem cmAt_rd {w : World} {B b n c : Nat} {L : List Cm} (h : Rd w B 11 (some ⟨b, 0, none⟩) n c (cmCells L)) {i : Nat} {a : Cm} (ha : L[i]? = some a) : CmAt w b (i * 11) a := by
  have g : ∀ j u, (cmCells [a])[j]? = some u → w.cell? ⟨b, i * 11 + j, none⟩ = some u := fun j u hj => by
    obtain ⟨b', o', e, -, hc⟩ := h.one (cmCells_at ha j u hj)
    injection e with e
    injection e with e1 e2
    subst e1 e2
    rwa [Nat.zero_add] at hc
  exact ⟨g 0 _ rfl, g 1 _ rfl, g 2 _ rfl, g 3 _ rfl, g 4 _ rfl, g 5 _ rfl, g 6 _ rfl, g 7 _ rfl, g 8 _ rfl, g 9 _ rfl, g 10 _ rfl⟩
theorem sameDsk_self (d : Dsk) : sameDsk d d = true := decide_eq_true ⟨rfl, rfl⟩
theorem sameS_any (S : List UInt8) (A E A' E' : Option Addr) (c k c' k' B B' : Nat) (w : World) (h : DkR w B A E c k ⟨S, []⟩) (g : DkR w B' A' E' c' k' ⟨S, []⟩) (hB : B ≤ w.heap.size) (hB' : B' ≤ w.heap.size) :
    Calls Tryd.prog 14 #[.agg #[.slice A S.length c, .slice E 0 k], .agg #[.slice A' S.length c', .slice E' 0 k']] w fun e w' => e = .returned (.bool true) ∧ Below w.heap.size w w' := by
  have := sameDisk_any ⟨S, []⟩ ⟨S, []⟩ A E A' E' c k c' k' B B' w h g hB hB'
  rw [sameDsk_self] at this
  exact this
set_option maxHeartbeats 4000000 in
set_option maxRecDepth 100000 in
theorem journalParts_walk (D : Dsk) (A : Option Addr) (c : Nat) (A' : Option Addr) (c' : Nat) (cm cb : Cm) (w : World) (he : Env w) (hr : Rd w w.heap.size 1 A D.safe.length c (u8s D.safe)) (hq : Rd w w.heap.size 1 A' D.wait.length c' (u8s D.wait)) (fc : FitC cm) (fb : FitC cb) :
    Calls Tryd.prog 4 #[.agg #[.slice A D.safe.length c, .slice A' D.wait.length c'], .agg #[.int .i64 cm.kind, .int .i64 cm.acc, .int .i64 cm.market, .int .i64 cm.n, .int .i64 cm.o.id, .int .i64 cm.o.acc, .int .i64 cm.o.side, .int .i64 cm.o.price, .int .i64 cm.o.qty, .int .i64 cm.how, .bool cm.reduce], .agg #[.int .i64 cb.kind, .int .i64 cb.acc, .int .i64 cb.market, .int .i64 cb.n, .int .i64 cb.o.id, .int .i64 cb.o.acc, .int .i64 cb.o.side, .int .i64 cb.o.price, .int .i64 cb.o.qty, .int .i64 cb.how, .bool cb.reduce]] w fun e w' => e = .returned (.bool true) ∧ Below w.heap.size w w' := by
  have HE := Lib.hid he
  have HR := Lib.hid (show DkR w w.heap.size A A' c c' D from ⟨hr, hq⟩)
  have HFC := Lib.hid fc
  have HFB := Lib.hid fb
  obtain ⟨dx, ex, hx⟩ : ∃ dx ex, putD D cm = (dx, ex) := ⟨_, _, rfl⟩
  obtain ⟨dy, ey, hy⟩ : ∃ dy ey, putD dx cb = (dy, ey) := ⟨_, _, rfl⟩
  obtain ⟨dp, ep, hp⟩ : ∃ dp ep, syncD dy = (dp, ep) := ⟨_, _, rfl⟩
  have HPL := Lib.hid (fun (h1 : ex = 0) (h2 : ey = 0) => parts_plain fc fb (d := D) (by rw [hx]; exact h1) (by rw [hx]; dsimp only; rw [hy]; exact h2))
  rw [hx] at HPL
  dsimp only at HPL
  rw [hy] at HPL
  dsimp only at HPL
  rw [hp] at HPL
  dsimp only at HPL
  have PX := Lib.hid hx
  have PY := Lib.hid hy
  have PP := Lib.hid hp
  clear he hr hq fc fb hx hy hp
  go_enter Tryd.func4, Tryd.ntmps4
  go_upto_region 1 with (fail)
  refine wp_nameT ?_
  intro w1 hw1
  have XD : Blk w1 w.heap.size 36 #[.slice A D.safe.length c, .slice A' D.wait.length c'] := by rw [hw1]; exact ((Blk.new w _ _).alloc _).alloc _
  have XC : Blk w1 (w.heap.size + 1) 25 #[.int .i64 cm.kind, .int .i64 cm.acc, .int .i64 cm.market, .int .i64 cm.n, .int .i64 cm.o.id, .int .i64 cm.o.acc, .int .i64 cm.o.side, .int .i64 cm.o.price, .int .i64 cm.o.qty, .int .i64 cm.how, .bool cm.reduce] := by
    rw [hw1]
    refine Blk.alloc ?_ _
    have := Blk.new (w.alloc (.cells #[.slice A D.safe.length c, .slice A' D.wait.length c'] 36)) 25 #[.int .i64 cm.kind, .int .i64 cm.acc, .int .i64 cm.market, .int .i64 cm.n, .int .i64 cm.o.id, .int .i64 cm.o.acc, .int .i64 cm.o.side, .int .i64 cm.o.price, .int .i64 cm.o.qty, .int .i64 cm.how, .bool cm.reduce]
    simpa using this
  have XB : Blk w1 (w.heap.size + 1 + 1) 25 #[.int .i64 cb.kind, .int .i64 cb.acc, .int .i64 cb.market, .int .i64 cb.n, .int .i64 cb.o.id, .int .i64 cb.o.acc, .int .i64 cb.o.side, .int .i64 cb.o.price, .int .i64 cb.o.qty, .int .i64 cb.how, .bool cb.reduce] := by
    rw [hw1]
    have := Blk.new ((w.alloc (.cells #[.slice A D.safe.length c, .slice A' D.wait.length c'] 36)).alloc (.cells #[.int .i64 cm.kind, .int .i64 cm.acc, .int .i64 cm.market, .int .i64 cm.n, .int .i64 cm.o.id, .int .i64 cm.o.acc, .int .i64 cm.o.side, .int .i64 cm.o.price, .int .i64 cm.o.qty, .int .i64 cm.how, .bool cm.reduce] 25)) 25 #[.int .i64 cb.kind, .int .i64 cb.acc, .int .i64 cb.market, .int .i64 cb.n, .int .i64 cb.o.id, .int .i64 cb.o.acc, .int .i64 cb.o.side, .int .i64 cb.o.price, .int .i64 cb.o.qty, .int .i64 cb.how, .bool cb.reduce]
    simpa using this
  have HB1 : Hid (Below w.heap.size w w1) := by rw [hw1]; exact Lib.hid ((((Below.refl _ _).alloc (Nat.le_refl _) _).alloc (by simp) _).alloc (by simp; omega) _)
  clear hw1
  have hs1 := HB1.out.size
  obtain ⟨q0, q1⟩ := bl_c2 XD
  obtain ⟨⟨a0, a1, a2, a3, a4, a5, a6, a7, a8, a9, a10⟩, -⟩ := bl_c11 XC
  go_wp2_with fail
  refine (putDisk_any D cm A A' c c' w.heap.size w1 (HR.out.below HB1.out) hs1 (HE.out.next HB1.out) HFC.out).mono ?_
  rintro e wc1 ⟨v, k, rfl, hk, hown, hb⟩
  rw [PX.out] at hk hown
  dsimp only at hk hown
  subst hk
  obtain ⟨A1, c1, E1, k1, rfl⟩ := hown.shape
  clear q0 q1 a0 a1 a2 a3 a4 a5 a6 a7 a8 a9 a10 XD
  replace XC := XC.below hb XC.lt
  replace XB := XB.below hb XB.lt
  have HBc1 := Lib.hid (HB1.out.trans (hb.mono HB1.out.size))
  have HO1 := Lib.hid (hown.mono (base' := w.heap.size) HB1.out.size)
  have hsc1 := HBc1.out.size
  clear hown hb
  have lt_XC_D7 := XC.lt
  have lt_XB_D7 := XB.lt
  go_upto_region 2 with (fail)
  refine wp_nameT ?_
  intro we1 hwe
  replace XC : Blk we1 (w.heap.size + 1) 25 #[.int .i64 cm.kind, .int .i64 cm.acc, .int .i64 cm.market, .int .i64 cm.n, .int .i64 cm.o.id, .int .i64 cm.o.acc, .int .i64 cm.o.side, .int .i64 cm.o.price, .int .i64 cm.o.qty, .int .i64 cm.how, .bool cm.reduce] := by rw [hwe]; exact XC.alloc _
  replace XB : Blk we1 (w.heap.size + 1 + 1) 25 #[.int .i64 cb.kind, .int .i64 cb.acc, .int .i64 cb.market, .int .i64 cb.n, .int .i64 cb.o.id, .int .i64 cb.o.acc, .int .i64 cb.o.side, .int .i64 cb.o.price, .int .i64 cb.o.qty, .int .i64 cb.how, .bool cb.reduce] := by rw [hwe]; exact XB.alloc _
  have D7 : DkV w we1 wc1.heap.size A1 E1 c1 k1 dx := by rw [hwe]; exact DkV.new (d := dx) (w0 := w) wc1 HO1.out
  have HBe1 : Hid (Below w.heap.size w we1) := by rw [hwe]; exact Lib.hid (HBc1.out.alloc hsc1 _)
  clear hwe HO1 HBc1
  have hse1 := HBe1.out.size
  go_wp2_with fail
  refine (journaled_any we1 (HE.out.next HBe1.out)).mono ?_
  rintro e wj2 ⟨rfl, hb⟩
  replace D7 := D7.below hb
  replace XC := XC.below hb XC.lt
  replace XB := XB.below hb XB.lt
  have HBj2 := Lib.hid (HBe1.out.trans (hb.mono HBe1.out.size))
  clear hb
  have hsj2 := HBj2.out.size
  by_cases h1 : ex = 0
  rotate_left
  · have d1 : (ex != 0) = true := by simpa using h1
    clear h1
    go_wp2_with fail
    refine (journaled_any wj2 (HE.out.next HBj2.out)).mono ?_
    rintro e wz ⟨rfl, hb⟩
    have HBz := Lib.hid (HBj2.out.trans (hb.mono HBj2.out.size))
    go_wp2_with fail
    go_ret
    exact ⟨rfl, HBz.out⟩
  have HPL1 := Lib.hid (HPL.out h1)
  subst h1
  clear HPL
  obtain ⟨q0, q1⟩ := bl_c2 D7.blk
  obtain ⟨⟨a0, a1, a2, a3, a4, a5, a6, a7, a8, a9, a10⟩, -⟩ := bl_c11 XB
  go_wp2_with fail
  refine (putDisk_any dx cb A1 E1 c1 k1 wj2.heap.size wj2 D7.rd (Nat.le_refl _) (HE.out.next HBj2.out) HFB.out).mono ?_
  rintro e wc3 ⟨v, k, rfl, hk, hown, hb⟩
  rw [PY.out] at hk hown
  dsimp only at hk hown
  subst hk
  obtain ⟨A3, c3, E3, k3, rfl⟩ := hown.shape
  clear q0 q1 a0 a1 a2 a3 a4 a5 a6 a7 a8 a9 a10
  replace D7 := D7.below hb
  replace XC := XC.below hb XC.lt
  replace XB := XB.below hb XB.lt
  have HBc3 := Lib.hid (HBj2.out.trans (hb.mono HBj2.out.size))
  have HO3 := Lib.hid (hown.mono (base' := w.heap.size) HBj2.out.size)
  have hsc3 := HBc3.out.size
  clear hown hb
  have lt_D7_D9 := D7.blk.lt
  have lt_XC_D9 := XC.lt
  have lt_XB_D9 := XB.lt
  go_upto_region 5 with (fail)
  refine wp_nameT ?_
  intro we3 hwe
  replace D7 : DkV w we3 wc1.heap.size A1 E1 c1 k1 dx := by rw [hwe]; exact D7.alloc _
  replace XC : Blk we3 (w.heap.size + 1) 25 #[.int .i64 cm.kind, .int .i64 cm.acc, .int .i64 cm.market, .int .i64 cm.n, .int .i64 cm.o.id, .int .i64 cm.o.acc, .int .i64 cm.o.side, .int .i64 cm.o.price, .int .i64 cm.o.qty, .int .i64 cm.how, .bool cm.reduce] := by rw [hwe]; exact XC.alloc _
  replace XB : Blk we3 (w.heap.size + 1 + 1) 25 #[.int .i64 cb.kind, .int .i64 cb.acc, .int .i64 cb.market, .int .i64 cb.n, .int .i64 cb.o.id, .int .i64 cb.o.acc, .int .i64 cb.o.side, .int .i64 cb.o.price, .int .i64 cb.o.qty, .int .i64 cb.how, .bool cb.reduce] := by rw [hwe]; exact XB.alloc _
  have D9 : DkV w we3 wc3.heap.size A3 E3 c3 k3 dy := by rw [hwe]; exact DkV.new (d := dy) (w0 := w) wc3 HO3.out
  have HBe3 : Hid (Below w.heap.size w we3) := by rw [hwe]; exact Lib.hid (HBc3.out.alloc hsc3 _)
  clear hwe HO3 HBc3
  have hse3 := HBe3.out.size
  by_cases h2 : ey = 0
  rotate_left
  · have d1 : (ey != 0) = true := by simpa using h2
    clear h2
    go_wp2_with fail
    go_ret
    exact ⟨rfl, HBe3.out⟩
  obtain ⟨hpl1, hpl2⟩ := HPL1.out h2
  have HPA := Lib.hid hpl1
  have HPB := Lib.hid hpl2
  subst h2
  clear HPL1 hpl1 hpl2
  obtain ⟨q0, q1⟩ := bl_c2 D9.blk
  go_wp2_with fail
  refine (sync_any dy A3 E3 c3 k3 we3.heap.size we3 D9.rd (Nat.le_refl _) (HE.out.next HBe3.out)).mono ?_
  rintro e wc4 ⟨v, k, rfl, hk, hown, hb⟩
  rw [PP.out] at hk hown
  dsimp only at hk hown
  subst hk
  obtain ⟨A4, c4, E4, k4, rfl⟩ := hown.shape
  clear q0 q1
  replace D7 := D7.below hb
  replace D9 := D9.below hb
  replace XC := XC.below hb XC.lt
  replace XB := XB.below hb XB.lt
  have HBc4 := Lib.hid (HBe3.out.trans (hb.mono HBe3.out.size))
  have HO4 := Lib.hid (hown.mono (base' := w.heap.size) HBe3.out.size)
  have hsc4 := HBc4.out.size
  clear hown hb
  have lt_D7_D10 := D7.blk.lt
  have lt_D9_D10 := D9.blk.lt
  have lt_XC_D10 := XC.lt
  have lt_XB_D10 := XB.lt
  go_upto_region 8 with (fail)
  refine wp_nameT ?_
  intro we4 hwe
  replace D7 : DkV w we4 wc1.heap.size A1 E1 c1 k1 dx := by rw [hwe]; exact D7.alloc _
  replace D9 : DkV w we4 wc3.heap.size A3 E3 c3 k3 dy := by rw [hwe]; exact D9.alloc _
  replace XC : Blk we4 (w.heap.size + 1) 25 #[.int .i64 cm.kind, .int .i64 cm.acc, .int .i64 cm.market, .int .i64 cm.n, .int .i64 cm.o.id, .int .i64 cm.o.acc, .int .i64 cm.o.side, .int .i64 cm.o.price, .int .i64 cm.o.qty, .int .i64 cm.how, .bool cm.reduce] := by rw [hwe]; exact XC.alloc _
  replace XB : Blk we4 (w.heap.size + 1 + 1) 25 #[.int .i64 cb.kind, .int .i64 cb.acc, .int .i64 cb.market, .int .i64 cb.n, .int .i64 cb.o.id, .int .i64 cb.o.acc, .int .i64 cb.o.side, .int .i64 cb.o.price, .int .i64 cb.o.qty, .int .i64 cb.how, .bool cb.reduce] := by rw [hwe]; exact XB.alloc _
  have D10 : DkV w we4 wc4.heap.size A4 E4 c4 k4 dp := by rw [hwe]; exact DkV.new (d := dp) (w0 := w) wc4 HO4.out
  have HBe4 : Hid (Below w.heap.size w we4) := by rw [hwe]; exact Lib.hid (HBc4.out.alloc hsc4 _)
  clear hwe HO4 HBc4
  have hse4 := HBe4.out.size
  by_cases h3 : ep = 0
  rotate_left
  · have d1 : (ep != 0) = true := by simpa using h3
    rcases HPA.out h3 with rfl | rfl | rfl
    all_goals
      clear h3 d1 HPA HPB
      go_wp2_with fail
      go_ret
      exact ⟨rfl, HBe4.out⟩
  obtain ⟨S, L, g1, g2, g3, g4, g5, g6⟩ := HPB.out h3
  subst h3
  injection g1 with g1 _
  subst g1
  obtain ⟨dq, eq1, hq1⟩ : ∃ dq e, syncD dx = (dq, e) := ⟨_, _, rfl⟩
  rw [hq1] at g2 g3 g4
  dsimp only at g2 g3 g4
  subst g2
  obtain ⟨dr, eq2, hq2⟩ : ∃ dr e, putD dq cb = (dr, e) := ⟨_, _, rfl⟩
  rw [hq2] at g3 g4
  dsimp only at g3 g4
  subst g3
  have P1 := Lib.hid hq1
  have P2 := Lib.hid hq2
  have P3 := Lib.hid g4
  have P4 := Lib.hid g5
  have P5 := Lib.hid g6
  clear HPA HPB hq1 hq2 g4 g5 g6 PX PY PP
  obtain ⟨q0, q1⟩ := bl_c2 D7.blk
  go_wp2_with fail
  refine (sync_any dx A1 E1 c1 k1 we4.heap.size we4 D7.rd (Nat.le_refl _) (HE.out.next HBe4.out)).mono ?_
  rintro e wc5 ⟨v, k, rfl, hk, hown, hb⟩
  rw [P1.out] at hk hown
  dsimp only at hk hown
  subst hk
  obtain ⟨A5, c5, E5, k5, rfl⟩ := hown.shape
  clear q0 q1
  replace D7 := D7.below hb
  replace D9 := D9.below hb
  replace D10 := D10.below hb
  replace XC := XC.below hb XC.lt
  replace XB := XB.below hb XB.lt
  have HBc5 := Lib.hid (HBe4.out.trans (hb.mono HBe4.out.size))
  have HO5 := Lib.hid (hown.mono (base' := w.heap.size) HBe4.out.size)
  have hsc5 := HBc5.out.size
  clear hown hb
  have lt_D7_D11 := D7.blk.lt
  have lt_D9_D11 := D9.blk.lt
  have lt_D10_D11 := D10.blk.lt
  have lt_XC_D11 := XC.lt
  have lt_XB_D11 := XB.lt
  go_upto_region 11 with (fail)
  refine wp_nameT ?_
  intro we5 hwe
  replace D7 : DkV w we5 wc1.heap.size A1 E1 c1 k1 dx := by rw [hwe]; exact D7.alloc _
  replace D9 : DkV w we5 wc3.heap.size A3 E3 c3 k3 dy := by rw [hwe]; exact D9.alloc _
  replace D10 : DkV w we5 wc4.heap.size A4 E4 c4 k4 ⟨S, []⟩ := by rw [hwe]; exact D10.alloc _
  replace XC : Blk we5 (w.heap.size + 1) 25 #[.int .i64 cm.kind, .int .i64 cm.acc, .int .i64 cm.market, .int .i64 cm.n, .int .i64 cm.o.id, .int .i64 cm.o.acc, .int .i64 cm.o.side, .int .i64 cm.o.price, .int .i64 cm.o.qty, .int .i64 cm.how, .bool cm.reduce] := by rw [hwe]; exact XC.alloc _
  replace XB : Blk we5 (w.heap.size + 1 + 1) 25 #[.int .i64 cb.kind, .int .i64 cb.acc, .int .i64 cb.market, .int .i64 cb.n, .int .i64 cb.o.id, .int .i64 cb.o.acc, .int .i64 cb.o.side, .int .i64 cb.o.price, .int .i64 cb.o.qty, .int .i64 cb.how, .bool cb.reduce] := by rw [hwe]; exact XB.alloc _
  have D11 : DkV w we5 wc5.heap.size A5 E5 c5 k5 dq := by rw [hwe]; exact DkV.new (d := dq) (w0 := w) wc5 HO5.out
  have HBe5 : Hid (Below w.heap.size w we5) := by rw [hwe]; exact Lib.hid (HBc5.out.alloc hsc5 _)
  clear hwe HO5 HBc5
  have hse5 := HBe5.out.size
  obtain ⟨q0, q1⟩ := bl_c2 D11.blk
  obtain ⟨⟨a0, a1, a2, a3, a4, a5, a6, a7, a8, a9, a10⟩, -⟩ := bl_c11 XB
  go_wp2_with fail
  refine (putDisk_any dq cb A5 E5 c5 k5 we5.heap.size we5 D11.rd (Nat.le_refl _) (HE.out.next HBe5.out) HFB.out).mono ?_
  rintro e wc6 ⟨v, k, rfl, hk, hown, hb⟩
  rw [P2.out] at hk hown
  dsimp only at hk hown
  subst hk
  obtain ⟨A6, c6, E6, k6, rfl⟩ := hown.shape
  clear q0 q1 a0 a1 a2 a3 a4 a5 a6 a7 a8 a9 a10
  replace D7 := D7.below hb
  replace D9 := D9.below hb
  replace D10 := D10.below hb
  replace D11 := D11.below hb
  replace XC := XC.below hb XC.lt
  replace XB := XB.below hb XB.lt
  have HBc6 := Lib.hid (HBe5.out.trans (hb.mono HBe5.out.size))
  have HO6 := Lib.hid (hown.mono (base' := w.heap.size) HBe5.out.size)
  have hsc6 := HBc6.out.size
  clear hown hb
  obtain ⟨⟨s0, s1⟩, f0, f1⟩ := bl_c2f D11.blk
  go_upto_region 14 with (fail)
  refine wp_nameT ?_
  intro we6 hwe
  have D7n : DkV w we6 wc1.heap.size A1 E1 c1 k1 dx := by rw [hwe]; exact D7.far D11 (by omega) _ _
  have D9n : DkV w we6 wc3.heap.size A3 E3 c3 k3 dy := by rw [hwe]; exact D9.far D11 (by omega) _ _
  have D10n : DkV w we6 wc4.heap.size A4 E4 c4 k4 ⟨S, []⟩ := by rw [hwe]; exact D10.far D11 (by omega) _ _
  have XCn : Blk we6 (w.heap.size + 1) 25 #[.int .i64 cm.kind, .int .i64 cm.acc, .int .i64 cm.market, .int .i64 cm.n, .int .i64 cm.o.id, .int .i64 cm.o.acc, .int .i64 cm.o.side, .int .i64 cm.o.price, .int .i64 cm.o.qty, .int .i64 cm.how, .bool cm.reduce] := by rw [hwe]; exact (XC.far (p := ⟨wc5.heap.size, 0, none⟩) (by show (w.heap.size + 1) ≠ wc5.heap.size; omega) _).far (p := ⟨wc5.heap.size, 1, none⟩) (by show (w.heap.size + 1) ≠ wc5.heap.size; omega) _
  have XBn : Blk we6 (w.heap.size + 1 + 1) 25 #[.int .i64 cb.kind, .int .i64 cb.acc, .int .i64 cb.market, .int .i64 cb.n, .int .i64 cb.o.id, .int .i64 cb.o.acc, .int .i64 cb.o.side, .int .i64 cb.o.price, .int .i64 cb.o.qty, .int .i64 cb.how, .bool cb.reduce] := by rw [hwe]; exact (XB.far (p := ⟨wc5.heap.size, 0, none⟩) (by show (w.heap.size + 1 + 1) ≠ wc5.heap.size; omega) _).far (p := ⟨wc5.heap.size, 1, none⟩) (by show (w.heap.size + 1 + 1) ≠ wc5.heap.size; omega) _
  have D11n : DkV w we6 wc5.heap.size A6 E6 c6 k6 dr := by rw [hwe]; exact D11.store (d := dr) HO6.out
  have HBe6 : Hid (Below w.heap.size w we6) := by rw [hwe]; exact Lib.hid ((HBc6.out.setCell (by show _ ≤ wc5.heap.size; omega) _).setCell (by show _ ≤ wc5.heap.size; omega) _)
  clear s0 s1 f0 f1 D7 D9 D10 D11 XC XB
  have D7 := D7n
  clear D7n
  have D9 := D9n
  clear D9n
  have D10 := D10n
  clear D10n
  have D11 := D11n
  clear D11n
  have XC := XCn
  clear XCn
  have XB := XBn
  clear XBn
  clear hwe HO6 HBc6
  have hse6 := HBe6.out.size
  obtain ⟨q0, q1⟩ := bl_c2 D11.blk
  go_wp2_with fail
  refine (sync_any dr A6 E6 c6 k6 we6.heap.size we6 D11.rd (Nat.le_refl _) (HE.out.next HBe6.out)).mono ?_
  rintro e wc7 ⟨v, k, rfl, hk, hown, hb⟩
  rw [P3.out] at hk hown
  dsimp only at hk hown
  subst hk
  obtain ⟨A7, c7, E7, k7, rfl⟩ := hown.shape
  clear q0 q1
  replace D7 := D7.below hb
  replace D9 := D9.below hb
  replace D10 := D10.below hb
  replace D11 := D11.below hb
  replace XC := XC.below hb XC.lt
  replace XB := XB.below hb XB.lt
  have HBc7 := Lib.hid (HBe6.out.trans (hb.mono HBe6.out.size))
  have HO7 := Lib.hid (hown.mono (base' := w.heap.size) HBe6.out.size)
  have hsc7 := HBc7.out.size
  clear hown hb
  obtain ⟨⟨s0, s1⟩, f0, f1⟩ := bl_c2f D11.blk
  go_upto_region 17 with (fail)
  refine wp_nameT ?_
  intro we7 hwe
  have D7n : DkV w we7 wc1.heap.size A1 E1 c1 k1 dx := by rw [hwe]; exact D7.far D11 (by omega) _ _
  have D9n : DkV w we7 wc3.heap.size A3 E3 c3 k3 dy := by rw [hwe]; exact D9.far D11 (by omega) _ _
  have D10n : DkV w we7 wc4.heap.size A4 E4 c4 k4 ⟨S, []⟩ := by rw [hwe]; exact D10.far D11 (by omega) _ _
  have XCn : Blk we7 (w.heap.size + 1) 25 #[.int .i64 cm.kind, .int .i64 cm.acc, .int .i64 cm.market, .int .i64 cm.n, .int .i64 cm.o.id, .int .i64 cm.o.acc, .int .i64 cm.o.side, .int .i64 cm.o.price, .int .i64 cm.o.qty, .int .i64 cm.how, .bool cm.reduce] := by rw [hwe]; exact (XC.far (p := ⟨wc5.heap.size, 0, none⟩) (by show (w.heap.size + 1) ≠ wc5.heap.size; omega) _).far (p := ⟨wc5.heap.size, 1, none⟩) (by show (w.heap.size + 1) ≠ wc5.heap.size; omega) _
  have XBn : Blk we7 (w.heap.size + 1 + 1) 25 #[.int .i64 cb.kind, .int .i64 cb.acc, .int .i64 cb.market, .int .i64 cb.n, .int .i64 cb.o.id, .int .i64 cb.o.acc, .int .i64 cb.o.side, .int .i64 cb.o.price, .int .i64 cb.o.qty, .int .i64 cb.how, .bool cb.reduce] := by rw [hwe]; exact (XB.far (p := ⟨wc5.heap.size, 0, none⟩) (by show (w.heap.size + 1 + 1) ≠ wc5.heap.size; omega) _).far (p := ⟨wc5.heap.size, 1, none⟩) (by show (w.heap.size + 1 + 1) ≠ wc5.heap.size; omega) _
  have D11n : DkV w we7 wc5.heap.size A7 E7 c7 k7 ⟨S, []⟩ := by rw [hwe]; exact D11.store (d := ⟨S, []⟩) HO7.out
  have HBe7 : Hid (Below w.heap.size w we7) := by rw [hwe]; exact Lib.hid ((HBc7.out.setCell (by show _ ≤ wc5.heap.size; omega) _).setCell (by show _ ≤ wc5.heap.size; omega) _)
  clear s0 s1 f0 f1 D7 D9 D10 D11 XC XB
  have D7 := D7n
  clear D7n
  have D9 := D9n
  clear D9n
  have D10 := D10n
  clear D10n
  have D11 := D11n
  clear D11n
  have XC := XCn
  clear XCn
  have XB := XBn
  clear XBn
  clear hwe HO7 HBc7
  have hse7 := HBe7.out.size
  obtain ⟨q0, q1⟩ := bl_c2 D10.blk
  obtain ⟨r0, r1⟩ := bl_c2 D11.blk
  go_wp2_with fail
  refine (sameDisk_any ⟨S, []⟩ ⟨S, []⟩ A4 E4 A7 E7 c4 k4 c7 k7 we7.heap.size we7.heap.size we7 D10.rd D11.rd (Nat.le_refl _) (Nat.le_refl _)).mono ?_
  rintro e wm8 ⟨rfl, hb⟩
  rw [sameDsk_self]
  clear q0 q1 r0 r1
  replace D7 := D7.below hb
  replace D9 := D9.below hb
  replace D10 := D10.below hb
  replace D11 := D11.below hb
  replace XC := XC.below hb XC.lt
  replace XB := XB.below hb XB.lt
  have HBm8 := Lib.hid (HBe7.out.trans (hb.mono HBe7.out.size))
  clear hb
  have hsm8 := HBm8.out.size
  obtain ⟨q0, q1⟩ := bl_c2 D10.blk
  go_wp2_with fail
  refine (crash_any ⟨S, []⟩ 0 A4 E4 c4 k4 wm8.heap.size wm8 D10.rd (Nat.le_refl _) (HE.out.next HBm8.out)).mono ?_
  rintro e wc9 ⟨v, k, rfl, hk, hown, hb⟩
  rw [P4.out] at hk hown
  dsimp only at hk hown
  subst hk
  obtain ⟨A9, c9, E9, k9, rfl⟩ := hown.shape
  clear q0 q1
  replace D7 := D7.below hb
  replace D9 := D9.below hb
  replace D10 := D10.below hb
  replace D11 := D11.below hb
  replace XC := XC.below hb XC.lt
  replace XB := XB.below hb XB.lt
  have HBc9 := Lib.hid (HBm8.out.trans (hb.mono HBm8.out.size))
  have HO9 := Lib.hid (hown.mono (base' := w.heap.size) HBm8.out.size)
  have hsc9 := HBc9.out.size
  clear hown hb
  have lt_D7_D12 := D7.blk.lt
  have lt_D9_D12 := D9.blk.lt
  have lt_D10_D12 := D10.blk.lt
  have lt_D11_D12 := D11.blk.lt
  have lt_XC_D12 := XC.lt
  have lt_XB_D12 := XB.lt
  go_upto_region 20 with (fail)
  refine wp_nameT ?_
  intro we9 hwe
  replace D7 : DkV w we9 wc1.heap.size A1 E1 c1 k1 dx := by rw [hwe]; exact D7.alloc _
  replace D9 : DkV w we9 wc3.heap.size A3 E3 c3 k3 dy := by rw [hwe]; exact D9.alloc _
  replace D10 : DkV w we9 wc4.heap.size A4 E4 c4 k4 ⟨S, []⟩ := by rw [hwe]; exact D10.alloc _
  replace D11 : DkV w we9 wc5.heap.size A7 E7 c7 k7 ⟨S, []⟩ := by rw [hwe]; exact D11.alloc _
  replace XC : Blk we9 (w.heap.size + 1) 25 #[.int .i64 cm.kind, .int .i64 cm.acc, .int .i64 cm.market, .int .i64 cm.n, .int .i64 cm.o.id, .int .i64 cm.o.acc, .int .i64 cm.o.side, .int .i64 cm.o.price, .int .i64 cm.o.qty, .int .i64 cm.how, .bool cm.reduce] := by rw [hwe]; exact XC.alloc _
  replace XB : Blk we9 (w.heap.size + 1 + 1) 25 #[.int .i64 cb.kind, .int .i64 cb.acc, .int .i64 cb.market, .int .i64 cb.n, .int .i64 cb.o.id, .int .i64 cb.o.acc, .int .i64 cb.o.side, .int .i64 cb.o.price, .int .i64 cb.o.qty, .int .i64 cb.how, .bool cb.reduce] := by rw [hwe]; exact XB.alloc _
  have D12 : DkV w we9 wc9.heap.size A9 E9 c9 k9 ⟨S, []⟩ := by rw [hwe]; exact DkV.new (d := ⟨S, []⟩) (w0 := w) wc9 HO9.out
  have HBe9 : Hid (Below w.heap.size w we9) := by rw [hwe]; exact Lib.hid (HBc9.out.alloc hsc9 _)
  clear hwe HO9 HBc9
  have hse9 := HBe9.out.size
  obtain ⟨q0, q1⟩ := bl_c2 D10.blk
  go_wp2_with fail
  refine (recover_any ⟨S, []⟩ A4 E4 c4 k4 we9.heap.size we9 D10.rd (Nat.le_refl _) (HE.out.next HBe9.out)).mono ?_
  rintro e wc10 ⟨v, u, k, rfl, hk, hown, hrow, hb⟩
  rw [P5.out] at hk hown hrow
  dsimp only at hk hown hrow
  subst hk
  obtain ⟨A10, c10, E10, k10, rfl⟩ := hown.shape
  obtain ⟨AL, cL, rfl⟩ := own_shape hrow
  clear q0 q1
  replace D7 := D7.below hb
  replace D9 := D9.below hb
  replace D10 := D10.below hb
  replace D11 := D11.below hb
  replace D12 := D12.below hb
  replace XC := XC.below hb XC.lt
  replace XB := XB.below hb XB.lt
  have HBc10 := Lib.hid (HBe9.out.trans (hb.mono HBe9.out.size))
  have HO10 := Lib.hid (hown.mono (base' := w.heap.size) HBe9.out.size)
  have HL10 := Lib.hid (show wc10.ownsRow w.heap.size 25 11 (.slice AL (L.length + 2) cL) (L.length + 2) (cmCells (L ++ [cm, cb])) by have := own_mono (base' := w.heap.size) hrow HBe9.out.size; rwa [List.length_append] at this)
  have hsc10 := HBc10.out.size
  clear hown hb hrow
  have lt_D7_D13 := D7.blk.lt
  have lt_D9_D13 := D9.blk.lt
  have lt_D10_D13 := D10.blk.lt
  have lt_D11_D13 := D11.blk.lt
  have lt_D12_D13 := D12.blk.lt
  have lt_XC_D13 := XC.lt
  have lt_XB_D13 := XB.lt
  go_upto_region 21 with (fail)
  refine wp_nameT ?_
  intro we10 hwe
  replace D7 : DkV w we10 wc1.heap.size A1 E1 c1 k1 dx := by rw [hwe]; exact D7.alloc _
  replace D9 : DkV w we10 wc3.heap.size A3 E3 c3 k3 dy := by rw [hwe]; exact D9.alloc _
  replace D10 : DkV w we10 wc4.heap.size A4 E4 c4 k4 ⟨S, []⟩ := by rw [hwe]; exact D10.alloc _
  replace D11 : DkV w we10 wc5.heap.size A7 E7 c7 k7 ⟨S, []⟩ := by rw [hwe]; exact D11.alloc _
  replace D12 : DkV w we10 wc9.heap.size A9 E9 c9 k9 ⟨S, []⟩ := by rw [hwe]; exact D12.alloc _
  replace XC : Blk we10 (w.heap.size + 1) 25 #[.int .i64 cm.kind, .int .i64 cm.acc, .int .i64 cm.market, .int .i64 cm.n, .int .i64 cm.o.id, .int .i64 cm.o.acc, .int .i64 cm.o.side, .int .i64 cm.o.price, .int .i64 cm.o.qty, .int .i64 cm.how, .bool cm.reduce] := by rw [hwe]; exact XC.alloc _
  replace XB : Blk we10 (w.heap.size + 1 + 1) 25 #[.int .i64 cb.kind, .int .i64 cb.acc, .int .i64 cb.market, .int .i64 cb.n, .int .i64 cb.o.id, .int .i64 cb.o.acc, .int .i64 cb.o.side, .int .i64 cb.o.price, .int .i64 cb.o.qty, .int .i64 cb.how, .bool cb.reduce] := by rw [hwe]; exact XB.alloc _
  have D13 : DkV w we10 wc10.heap.size A10 E10 c10 k10 ⟨S, []⟩ := by rw [hwe]; exact DkV.new (d := ⟨S, []⟩) (w0 := w) wc10 HO10.out
  have HBe10 : Hid (Below w.heap.size w we10) := by rw [hwe]; exact Lib.hid (HBc10.out.alloc hsc10 _)
  have HLe : Hid (we10.ownsRow w.heap.size 25 11 (.slice AL (L.length + 2) cL) (L.length + 2) (cmCells (L ++ [cm, cb]))) := by rw [hwe]; exact Lib.hid (World.ownsRow.alloc HL10.out _)
  clear hwe HO10 HBc10
  have hse10 := HBe10.out.size
  have HLR := Rd.of_own HLe.out
  obtain ⟨-, ⟨e0, -⟩ | ⟨gL, capL, curL, e0, -⟩⟩ := HLe.out
  · injection e0 with _ e0 _
    omega
  injection e0 with e0 _ e1
  subst e0 e1
  have rc := cmAt_rd HLR (i := L.length) (a := cm) (by simp)
  have rb := cmAt_rd HLR (i := L.length + 1) (a := cb) (by simp)
  have hbL := (World.ownsRow.lt HLe.out gL rfl).2
  have HD12 := Lib.hid D12
  have HD10 := Lib.hid D10
  have HD13 := Lib.hid D13
  have hrow11 : ∀ W, Below we10.heap.size we10 W → ∀ o a, CmAt we10 gL o a → CmAt W gL o a := fun W hW o a h => ⟨(hW.cell (p := ⟨gL, o, none⟩) hbL).trans h.1, (hW.cell (p := ⟨gL, o + 1, none⟩) hbL).trans h.2.1, (hW.cell (p := ⟨gL, o + 2, none⟩) hbL).trans h.2.2.1, (hW.cell (p := ⟨gL, o + 3, none⟩) hbL).trans h.2.2.2.1, (hW.cell (p := ⟨gL, o + 4, none⟩) hbL).trans h.2.2.2.2.1, (hW.cell (p := ⟨gL, o + 5, none⟩) hbL).trans h.2.2.2.2.2.1, (hW.cell (p := ⟨gL, o + 6, none⟩) hbL).trans h.2.2.2.2.2.2.1, (hW.cell (p := ⟨gL, o + 7, none⟩) hbL).trans h.2.2.2.2.2.2.2.1, (hW.cell (p := ⟨gL, o + 8, none⟩) hbL).trans h.2.2.2.2.2.2.2.2.1, (hW.cell (p := ⟨gL, o + 9, none⟩) hbL).trans h.2.2.2.2.2.2.2.2.2.1, (hW.cell (p := ⟨gL, o + 10, none⟩) hbL).trans h.2.2.2.2.2.2.2.2.2.2⟩
  have KS : Hid (∀ W, Below we10.heap.size we10 W → (W.cell? ⟨wc9.heap.size, 0, none⟩ = some (.slice A9 S.length c9) ∧ W.cell? ⟨wc9.heap.size, 1, none⟩ = some (.slice E9 0 k9)) ∧ (W.cell? ⟨wc4.heap.size, 0, none⟩ = some (.slice A4 S.length c4) ∧ W.cell? ⟨wc4.heap.size, 1, none⟩ = some (.slice E4 0 k4)) ∧ (W.cell? ⟨wc10.heap.size, 0, none⟩ = some (.slice A10 S.length c10) ∧ W.cell? ⟨wc10.heap.size, 1, none⟩ = some (.slice E10 0 k10)) ∧ (W.cell? ⟨w.heap.size + 1, 0, none⟩ = some (.int .i64 cm.kind) ∧ W.cell? ⟨w.heap.size + 1, 1, none⟩ = some (.int .i64 cm.acc) ∧ W.cell? ⟨w.heap.size + 1, 2, none⟩ = some (.int .i64 cm.market) ∧ W.cell? ⟨w.heap.size + 1, 3, none⟩ = some (.int .i64 cm.n) ∧ W.cell? ⟨w.heap.size + 1, 4, none⟩ = some (.int .i64 cm.o.id) ∧ W.cell? ⟨w.heap.size + 1, 5, none⟩ = some (.int .i64 cm.o.acc) ∧ W.cell? ⟨w.heap.size + 1, 6, none⟩ = some (.int .i64 cm.o.side) ∧ W.cell? ⟨w.heap.size + 1, 7, none⟩ = some (.int .i64 cm.o.price) ∧ W.cell? ⟨w.heap.size + 1, 8, none⟩ = some (.int .i64 cm.o.qty) ∧ W.cell? ⟨w.heap.size + 1, 9, none⟩ = some (.int .i64 cm.how) ∧ W.cell? ⟨w.heap.size + 1, 10, none⟩ = some (.bool cm.reduce)) ∧ (W.cell? ⟨w.heap.size + 1 + 1, 0, none⟩ = some (.int .i64 cb.kind) ∧ W.cell? ⟨w.heap.size + 1 + 1, 1, none⟩ = some (.int .i64 cb.acc) ∧ W.cell? ⟨w.heap.size + 1 + 1, 2, none⟩ = some (.int .i64 cb.market) ∧ W.cell? ⟨w.heap.size + 1 + 1, 3, none⟩ = some (.int .i64 cb.n) ∧ W.cell? ⟨w.heap.size + 1 + 1, 4, none⟩ = some (.int .i64 cb.o.id) ∧ W.cell? ⟨w.heap.size + 1 + 1, 5, none⟩ = some (.int .i64 cb.o.acc) ∧ W.cell? ⟨w.heap.size + 1 + 1, 6, none⟩ = some (.int .i64 cb.o.side) ∧ W.cell? ⟨w.heap.size + 1 + 1, 7, none⟩ = some (.int .i64 cb.o.price) ∧ W.cell? ⟨w.heap.size + 1 + 1, 8, none⟩ = some (.int .i64 cb.o.qty) ∧ W.cell? ⟨w.heap.size + 1 + 1, 9, none⟩ = some (.int .i64 cb.how) ∧ W.cell? ⟨w.heap.size + 1 + 1, 10, none⟩ = some (.bool cb.reduce)) ∧ (W.cell? ⟨gL, L.length * 11, none⟩ = some (.int .i64 cm.kind) ∧ W.cell? ⟨gL, L.length * 11 + 1, none⟩ = some (.int .i64 cm.acc) ∧ W.cell? ⟨gL, L.length * 11 + 2, none⟩ = some (.int .i64 cm.market) ∧ W.cell? ⟨gL, L.length * 11 + 3, none⟩ = some (.int .i64 cm.n) ∧ W.cell? ⟨gL, L.length * 11 + 4, none⟩ = some (.int .i64 cm.o.id) ∧ W.cell? ⟨gL, L.length * 11 + 5, none⟩ = some (.int .i64 cm.o.acc) ∧ W.cell? ⟨gL, L.length * 11 + 6, none⟩ = some (.int .i64 cm.o.side) ∧ W.cell? ⟨gL, L.length * 11 + 7, none⟩ = some (.int .i64 cm.o.price) ∧ W.cell? ⟨gL, L.length * 11 + 8, none⟩ = some (.int .i64 cm.o.qty) ∧ W.cell? ⟨gL, L.length * 11 + 9, none⟩ = some (.int .i64 cm.how) ∧ W.cell? ⟨gL, L.length * 11 + 10, none⟩ = some (.bool cm.reduce)) ∧ (W.cell? ⟨gL, (L.length + 1) * 11, none⟩ = some (.int .i64 cb.kind) ∧ W.cell? ⟨gL, (L.length + 1) * 11 + 1, none⟩ = some (.int .i64 cb.acc) ∧ W.cell? ⟨gL, (L.length + 1) * 11 + 2, none⟩ = some (.int .i64 cb.market) ∧ W.cell? ⟨gL, (L.length + 1) * 11 + 3, none⟩ = some (.int .i64 cb.n) ∧ W.cell? ⟨gL, (L.length + 1) * 11 + 4, none⟩ = some (.int .i64 cb.o.id) ∧ W.cell? ⟨gL, (L.length + 1) * 11 + 5, none⟩ = some (.int .i64 cb.o.acc) ∧ W.cell? ⟨gL, (L.length + 1) * 11 + 6, none⟩ = some (.int .i64 cb.o.side) ∧ W.cell? ⟨gL, (L.length + 1) * 11 + 7, none⟩ = some (.int .i64 cb.o.price) ∧ W.cell? ⟨gL, (L.length + 1) * 11 + 8, none⟩ = some (.int .i64 cb.o.qty) ∧ W.cell? ⟨gL, (L.length + 1) * 11 + 9, none⟩ = some (.int .i64 cb.how) ∧ W.cell? ⟨gL, (L.length + 1) * 11 + 10, none⟩ = some (.bool cb.reduce))) := by
    refine Lib.hid fun W hW => ⟨bl_c2 (D12.below hW).blk, bl_c2 (D10.below hW).blk, bl_c2 (D13.below hW).blk, (bl_c11 (XC.below hW XC.lt)).1, (bl_c11 (XB.below hW XB.lt)).1, hrow11 W hW _ _ rc, hrow11 W hW _ _ rb⟩
  have hLcap : L.length + 2 ≤ 9223372036854775807 := by have h1 := HLR.le; have h2 := HLR.cap; simp only [maxLen] at h2; omega
  have hi0 : (0 : Int) ≤ (L.length : Int) + 1 := by omega
  have hi1 : (L.length : Int) + 1 < (L.length : Int) + 2 := by omega
  have hi2 : (0 : Int) ≤ (L.length : Int) := by omega
  have hi3 : (L.length : Int) < (L.length : Int) + 2 := by omega
  have hw1 : IntKind.i64.wrap ((L.length : Int) + 2 - 1) = (L.length : Int) + 1 := by simp [IntKind.wrap, IntKind.bits, IntKind.signed]; omega
  have hw2 : IntKind.i64.wrap ((L.length : Int) + 2 - 2) = (L.length : Int) := by simp [IntKind.wrap, IntKind.bits, IntKind.signed]; omega
  have hw3 : IntKind.i64.wrap (L.length : Int) = (L.length : Int) := by simp [IntKind.wrap, IntKind.bits, IntKind.signed]; omega
  have hn1 : ((L.length : Int) + 1).toNat = L.length + 1 := by omega
  have hgt : (1 : Int) < (L.length : Int) + 2 := by omega
  have hgt2 : decide ((1 : Int) < (L.length : Int) + 2) = true := decide_eq_true hgt
  have h22 : Below we10.heap.size we10 we10 := Below.refl _ _
  have q1 := fun w => run_eql_cm cm cm w
  have q2 := fun w => run_eql_cm cb cb w
  simp only [show ∀ x : Cm, eqCm x x = true from fun x => eqCm_iff.2 rfl] at q1 q2
  clear D12 D10 D13 D11 D7 D9 XC XB rc rb HLR hbL HLe hrow11
  go_wp2_with fail
  go_region_held3 (fun W => (W.cell? ⟨wc9.heap.size, 0, none⟩ = some (.slice A9 S.length c9) ∧ W.cell? ⟨wc9.heap.size, 1, none⟩ = some (.slice E9 0 k9)) ∧ (W.cell? ⟨wc4.heap.size, 0, none⟩ = some (.slice A4 S.length c4) ∧ W.cell? ⟨wc4.heap.size, 1, none⟩ = some (.slice E4 0 k4)) ∧ (W.cell? ⟨wc10.heap.size, 0, none⟩ = some (.slice A10 S.length c10) ∧ W.cell? ⟨wc10.heap.size, 1, none⟩ = some (.slice E10 0 k10)) ∧ (W.cell? ⟨w.heap.size + 1, 0, none⟩ = some (.int .i64 cm.kind) ∧ W.cell? ⟨w.heap.size + 1, 1, none⟩ = some (.int .i64 cm.acc) ∧ W.cell? ⟨w.heap.size + 1, 2, none⟩ = some (.int .i64 cm.market) ∧ W.cell? ⟨w.heap.size + 1, 3, none⟩ = some (.int .i64 cm.n) ∧ W.cell? ⟨w.heap.size + 1, 4, none⟩ = some (.int .i64 cm.o.id) ∧ W.cell? ⟨w.heap.size + 1, 5, none⟩ = some (.int .i64 cm.o.acc) ∧ W.cell? ⟨w.heap.size + 1, 6, none⟩ = some (.int .i64 cm.o.side) ∧ W.cell? ⟨w.heap.size + 1, 7, none⟩ = some (.int .i64 cm.o.price) ∧ W.cell? ⟨w.heap.size + 1, 8, none⟩ = some (.int .i64 cm.o.qty) ∧ W.cell? ⟨w.heap.size + 1, 9, none⟩ = some (.int .i64 cm.how) ∧ W.cell? ⟨w.heap.size + 1, 10, none⟩ = some (.bool cm.reduce)) ∧ (W.cell? ⟨w.heap.size + 1 + 1, 0, none⟩ = some (.int .i64 cb.kind) ∧ W.cell? ⟨w.heap.size + 1 + 1, 1, none⟩ = some (.int .i64 cb.acc) ∧ W.cell? ⟨w.heap.size + 1 + 1, 2, none⟩ = some (.int .i64 cb.market) ∧ W.cell? ⟨w.heap.size + 1 + 1, 3, none⟩ = some (.int .i64 cb.n) ∧ W.cell? ⟨w.heap.size + 1 + 1, 4, none⟩ = some (.int .i64 cb.o.id) ∧ W.cell? ⟨w.heap.size + 1 + 1, 5, none⟩ = some (.int .i64 cb.o.acc) ∧ W.cell? ⟨w.heap.size + 1 + 1, 6, none⟩ = some (.int .i64 cb.o.side) ∧ W.cell? ⟨w.heap.size + 1 + 1, 7, none⟩ = some (.int .i64 cb.o.price) ∧ W.cell? ⟨w.heap.size + 1 + 1, 8, none⟩ = some (.int .i64 cb.o.qty) ∧ W.cell? ⟨w.heap.size + 1 + 1, 9, none⟩ = some (.int .i64 cb.how) ∧ W.cell? ⟨w.heap.size + 1 + 1, 10, none⟩ = some (.bool cb.reduce)) ∧ (W.cell? ⟨gL, L.length * 11, none⟩ = some (.int .i64 cm.kind) ∧ W.cell? ⟨gL, L.length * 11 + 1, none⟩ = some (.int .i64 cm.acc) ∧ W.cell? ⟨gL, L.length * 11 + 2, none⟩ = some (.int .i64 cm.market) ∧ W.cell? ⟨gL, L.length * 11 + 3, none⟩ = some (.int .i64 cm.n) ∧ W.cell? ⟨gL, L.length * 11 + 4, none⟩ = some (.int .i64 cm.o.id) ∧ W.cell? ⟨gL, L.length * 11 + 5, none⟩ = some (.int .i64 cm.o.acc) ∧ W.cell? ⟨gL, L.length * 11 + 6, none⟩ = some (.int .i64 cm.o.side) ∧ W.cell? ⟨gL, L.length * 11 + 7, none⟩ = some (.int .i64 cm.o.price) ∧ W.cell? ⟨gL, L.length * 11 + 8, none⟩ = some (.int .i64 cm.o.qty) ∧ W.cell? ⟨gL, L.length * 11 + 9, none⟩ = some (.int .i64 cm.how) ∧ W.cell? ⟨gL, L.length * 11 + 10, none⟩ = some (.bool cm.reduce)) ∧ (W.cell? ⟨gL, (L.length + 1) * 11, none⟩ = some (.int .i64 cb.kind) ∧ W.cell? ⟨gL, (L.length + 1) * 11 + 1, none⟩ = some (.int .i64 cb.acc) ∧ W.cell? ⟨gL, (L.length + 1) * 11 + 2, none⟩ = some (.int .i64 cb.market) ∧ W.cell? ⟨gL, (L.length + 1) * 11 + 3, none⟩ = some (.int .i64 cb.n) ∧ W.cell? ⟨gL, (L.length + 1) * 11 + 4, none⟩ = some (.int .i64 cb.o.id) ∧ W.cell? ⟨gL, (L.length + 1) * 11 + 5, none⟩ = some (.int .i64 cb.o.acc) ∧ W.cell? ⟨gL, (L.length + 1) * 11 + 6, none⟩ = some (.int .i64 cb.o.side) ∧ W.cell? ⟨gL, (L.length + 1) * 11 + 7, none⟩ = some (.int .i64 cb.o.price) ∧ W.cell? ⟨gL, (L.length + 1) * 11 + 8, none⟩ = some (.int .i64 cb.o.qty) ∧ W.cell? ⟨gL, (L.length + 1) * 11 + 9, none⟩ = some (.int .i64 cb.how) ∧ W.cell? ⟨gL, (L.length + 1) * 11 + 10, none⟩ = some (.bool cb.reduce)))
    (first | (exact KS.out _ (by assumption)) | (exact KS.out _ (below_drewT (by assumption))))
    ((first
      | (go_at_call 14; go_split_ands; (with_reducible refine (sameS_any S A9 E9 A4 E4 c9 k9 c4 k4 we10.heap.size we10.heap.size _ (HD12.out.rd.below (by first | assumption | exact below_drewT (by assumption))) (HD10.out.rd.below (by first | assumption | exact below_drewT (by assumption))) (Below.size (w := we10) (by first | assumption | exact below_drewT (by assumption))) (Below.size (w := we10) (by first | assumption | exact below_drewT (by assumption)))).mono ?_); rintro e W' ⟨rfl, hb⟩; have hBX := below_nextD (w0 := we10) hb (by first | assumption | exact below_drewT (by assumption)))
      | (go_at_call 14; go_split_ands; (with_reducible refine (sameS_any S A10 E10 A4 E4 c10 k10 c4 k4 we10.heap.size we10.heap.size _ (HD13.out.rd.below (by first | assumption | exact below_drewT (by assumption))) (HD10.out.rd.below (by first | assumption | exact below_drewT (by assumption))) (Below.size (w := we10) (by first | assumption | exact below_drewT (by assumption))) (Below.size (w := we10) (by first | assumption | exact below_drewT (by assumption)))).mono ?_); rintro e W' ⟨rfl, hb⟩; have hBX := below_nextD (w0 := we10) hb (by first | assumption | exact below_drewT (by assumption)))
      | fail "none"))
  all_goals
    have HBF := Lib.hid (HBe10.out.trans (hBX.mono hse10))
    clear hBX KS
    go_wp2_with fail
    go_ret
    exact ⟨rfl, HBF.out⟩
end Go.Proofs.YtockodmbhnlheaaDoor
