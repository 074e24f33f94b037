/-
  The law JournalSays, walked.
-/
import Derived.Test.YtockodmbhnlheaaDoorJLawd
import Derived.Test.YtockodmbhnlheaaDoorRefDk
import Derived.Test.YtockodmbhnlheaaDoorRefChk
namespace Go.Proofs.YtockodmbhnlheaaDoor
open Go.RowKit


theorem cmCells_at : ∀ {L : List Cm} {i : Nat} {a : Cm}, L[i]? = some a → ∀ j u, (cmCells [a])[j]? = some u → (cmCells L)[i * 11 + j]? = some u
  | [], i, a, h, _, _, _ => by simp at h
  | o :: l, 0, a, h, j, u, hj => by
    simp only [List.getElem?_cons_zero, Option.some.injEq] at h
    subst h
    have hlt : j < 11 := by have := (List.getElem?_eq_some_iff.1 hj).1; simpa [cmCells] using this
    rw [show cmCells (o :: l) = cmCells [o] ++ cmCells l from cmCells_app l [o], List.getElem?_append_left (by rw [cmCells_len]; simp; omega)]
    rw [Nat.zero_mul, Nat.zero_add]; exact hj
  | o :: l, i + 1, a, h, j, u, hj => by
    have h' : l[i]? = some a := by simpa using h
    have ih := cmCells_at h' j u hj
    rw [show cmCells (o :: l) = cmCells [o] ++ cmCells l from cmCells_app l [o], List.getElem?_append_right (by rw [cmCells_len]; simp; omega)]
    rw [cmCells_len, ← ih]; congr 1; simp; omega
theorem cmR_at {w : World} {B n c : Nat} {A : Option Addr} {L : List Cm} (h : Rd w B 11 A n c (cmCells L)) {i : Nat} (hi : i < n) : ∃ b o a, A = some ⟨b, o, none⟩ ∧ b < B ∧ L[i]? = some a ∧ w.cell? ⟨b, o + i * 11, none⟩ = some (.int .i64 a.kind) ∧ w.cell? ⟨b, o + i * 11 + 1, none⟩ = some (.int .i64 a.acc) ∧ w.cell? ⟨b, o + i * 11 + 2, none⟩ = some (.int .i64 a.market) ∧ w.cell? ⟨b, o + i * 11 + 3, none⟩ = some (.int .i64 a.n) ∧ w.cell? ⟨b, o + i * 11 + 4, none⟩ = some (.int .i64 a.o.id) ∧ w.cell? ⟨b, o + i * 11 + 5, none⟩ = some (.int .i64 a.o.acc) ∧ w.cell? ⟨b, o + i * 11 + 6, none⟩ = some (.int .i64 a.o.side) ∧ w.cell? ⟨b, o + i * 11 + 7, none⟩ = some (.int .i64 a.o.price) ∧ w.cell? ⟨b, o + i * 11 + 8, none⟩ = some (.int .i64 a.o.qty) ∧ w.cell? ⟨b, o + i * 11 + 9, none⟩ = some (.int .i64 a.how) ∧ w.cell? ⟨b, o + i * 11 + 10, none⟩ = some (.bool a.reduce) := by
  have hl := h.len
  rw [cmCells_len] at hl
  obtain ⟨b, o, e, hb, hc⟩ := h.at_ (by omega)
  obtain ⟨a, ha⟩ : ∃ a, L[i]? = some a := ⟨_, List.getElem?_eq_getElem (by omega)⟩
  have g : ∀ j u, (cmCells [a])[j]? = some u → w.cell? ⟨b, o + i * 11 + j, none⟩ = some u := fun j u hj => by rw [Nat.add_assoc]; exact hc _ _ (cmCells_at ha j u hj)
  exact ⟨b, o, a, e, hb, ha, g 0 _ rfl, g 1 _ rfl, g 2 _ rfl, g 3 _ rfl, g 4 _ rfl, g 5 _ rfl, g 6 _ rfl, g 7 _ rfl, g 8 _ rfl, g 9 _ rfl, g 10 _ rfl⟩
instance : DecidableEq Cm := fun _ _ => decidable_of_iff _ eqCm_iff
theorem sameCms_len {L M : List Cm} (h : L.length ≠ M.length) : L ≠ M := fun e => h (by rw [e])
theorem sameCms_at {L M : List Cm} {j : Nat} {x y : Cm} (hx : L[j]? = some x) (hy : M[j]? = some y) (h : eqCm x y = false) : L ≠ M := by
  intro e
  subst e
  rw [hx] at hy; injection hy with hy
  rw [eqCm_iff.2 hy] at h; cases h
theorem take_nextC {L M : List Cm} {j : Nat} {x y : Cm} (hx : L[j]? = some x) (hy : M[j]? = some y) (h : eqCm x y = true) (ht : L.take j = M.take j) : L.take (j + 1) = M.take (j + 1) := by
  rw [List.take_add_one, List.take_add_one, hx, hy, ht, eqCm_iff.1 h]
set_option maxHeartbeats 2000000 in
set_option maxRecDepth 100000 in
theorem equal_cms (A A' : Option Addr) (n c n' c' : Nat) (L M : List Cm) (B B' : Nat) (w : World) (h : Rd w B 11 A n c (cmCells L)) (h' : Rd w B' 11 A' n' c' (cmCells M)) (hB : B ≤ w.heap.size) (hB' : B' ≤ w.heap.size) (b : Bool) (hb : b = decide (L = M)) :
    Calls Tryd.prog 26 #[.slice A n c, .slice A' n' c'] w fun e w' => e = .returned (.bool b) ∧ Below w.heap.size w w' := by
  have hle := h.le
  have hcap := h.cap
  have hle' := h'.le
  have hcap' := h'.cap
  have HL := Lib.hid (show L.length = n by have := h.len; rw [cmCells_len] at this; omega)
  have HM := Lib.hid (show M.length = n' by have := h'.len; rw [cmCells_len] at this; omega)
  have HB0 := Lib.hid hb
  clear hb
  unfold maxLen at hcap hcap'
  by_cases hnn : n = n'
  · subst hnn
    go_enter Tryd.func26, Tryd.ntmps26
    go_wp2_with fail
    go_loopw [13] (fun i wr => ∃ j : Nat, j ≤ n ∧ i = .int .i64 j ∧ Below w.heap.size w wr ∧ Hid (L.take j = M.take j)) (fun i _ => n - (intOf i).toNat)
    case atStart => exact ⟨0, Nat.zero_le _, rfl, Below.refl _ _, Lib.hid (by simp)⟩
    case round =>
      obtain ⟨j, hj, rfl, hbr, HP⟩ := hrel
      have hws := hbr.size
      by_cases hlt : j < n
      · obtain ⟨bb, o, x, rfl, hb1, hx, k0, k1, k2, k3, k4, k5, k6, k7, k8, k9, k10⟩ := cmR_at (h.below (hbr.mono hB)) hlt
        obtain ⟨bb', o', y, rfl, hb2, hy, l0, l1, l2, l3, l4, l5, l6, l7, l8, l9, l10⟩ := cmR_at (h'.below (hbr.mono hB')) hlt
        have HX := Lib.hid hx
        have HY := Lib.hid hy
        have q := fun w => run_neq_cm x y w
        clear hx hy
        rcases bool_csU (eqCm x y) with hp | hp
        · have HN := Lib.hid (take_nextC HX.out HY.out hp HP.out)
          rw [hp] at q
          simp only [Bool.not_true] at q
          go_wp2_with fail
          go_region
          go_wp2_with fail
          go_roundw
          case rel => exact ⟨j + 1, by omega, by go_num, (by first | exact below_drewT hbr | exact below_drewN hbr _), HN⟩
          case measure => simp [intOf]; omega
        · have HN := Lib.hid (sameCms_at HX.out HY.out hp)
          rw [hp] at q
          simp only [Bool.not_false] at q
          go_wp2_with fail
          go_region
          go_wp2_with fail
          go_ret
          exact ⟨ret_bb (by rw [HB0.out]; exact (decide_eq_false HN.out).symm), (by first | exact below_drewT hbr | exact below_drewN hbr _)⟩
      · have hjn : j = n := by omega
        have HE := Lib.hid (show L = M by
          have := HP.out
          rwa [hjn, List.take_of_length_le (by rw [HL.out]; exact Nat.le_refl _), List.take_of_length_le (by rw [HM.out]; exact Nat.le_refl _)] at this)
        clear hjn
        go_wp2_with fail
        go_ret
        exact ⟨ret_bb (by rw [HB0.out]; exact (decide_eq_true HE.out).symm), hbr⟩
  · have HE := Lib.hid (sameCms_len (L := L) (M := M) (by rw [HL.out, HM.out]; exact hnn))
    go_enter Tryd.func26, Tryd.ntmps26
    go_wp2_with fail
    go_ret
    exact ⟨ret_bb (by rw [HB0.out]; exact (decide_eq_false HE.out).symm), Below.refl _ _⟩

theorem sameDsk_selfJ (d : Dsk) : sameDsk d d = true := decide_eq_true ⟨rfl, rfl⟩
theorem same_oneJ (d : Dsk) (A A' E E' : Option Addr) (c c' k k' B B' : Nat) (w : World) (h : DkR w B A A' c c' d) (g : DkR w B' E E' k k' d) (hB : B ≤ w.heap.size) (hB' : B' ≤ w.heap.size) :
    Calls Tryd.prog 14 #[.agg #[.slice A d.safe.length c, .slice A' d.wait.length c'], .agg #[.slice E d.safe.length k, .slice E' d.wait.length k']] w fun e w' => e = .returned (.bool true) ∧ Below w.heap.size w w' := by
  have := sameDisk_any d d A A' E E' c c' k k' B B' w h g hB hB'
  rw [sameDsk_selfJ] at this
  exact this
theorem same_atJ {n n' m m' : Nat} (d : Dsk) (A A' E E' : Option Addr) (c c' k k' B B' : Nat) (w : World) (h : DkR w B A A' c c' d) (g : DkR w B' E E' k k' d) (hB : B ≤ w.heap.size) (hB' : B' ≤ w.heap.size) (e1 : d.safe.length = n) (e2 : d.wait.length = n') (e3 : d.safe.length = m) (e4 : d.wait.length = m') :
    Calls Tryd.prog 14 #[.agg #[.slice A n c, .slice A' n' c'], .agg #[.slice E m k, .slice E' m' k']] w fun e w' => e = .returned (.bool true) ∧ Below w.heap.size w w' := by
  subst e1; subst e2; subst e3; subst e4
  exact same_oneJ d A A' E E' c c' k k' B B' w h g hB hB'
theorem wp_strJ {P : Program} {o : Oper} {a : Act} {w : World} {K : Act → World → Prop} {Q : Exit → Act → World → Prop} (s x : Operand) (t u : TypeId)
    (ho : o.op = .call { callee := .builtin .append, args := #[s, x], argTypes := #[t, u] })
    (base e : Nat) (hu : P.underlying u = some .string) (E : Elem P t e 1 1) (hz : ∀ i, P.info? e = some i → i.zero = some (.int .u8 0)) (v : Value) (n : Nat) (xs : List UInt8) (hs : a.eval s = v) (hown : w.ownsRow base e 1 v n (u8s xs))
    (l : List UInt8) (hx : a.eval x = .string (bs l)) (hbytes : n + l.length ≤ 140737488355328) (hbase : base ≤ w.heap.size)
    (h : ∀ v' w', w'.ownsRow base e 1 v' (n + l.length) (u8s (xs ++ l)) → Below base w w' → w.grownBy w' v.ownBlock → K (a.put o.dst v') w') :
    Oper.wp P o a w K Q := by
  obtain ⟨i, z, hi, hz', hsize, hby, hzs⟩ := E.hi
  obtain ⟨v', w', hrun, h2, h3, -⟩ := Lib.run_append_own_string (P := P) w base t u o.type e i E.ht hu hi (hz i hi) hsize hby v n (u8s xs) hown (bs l) (by rw [bs_size]; unfold maxLen; omega) (by rw [bs_size]; omega) hbase
  rw [bs_size, u8s_str, ← u8s_app] at h2
  unfold Oper.wp execOp
  simp only [ho, resolve, invoke, builtin, Sem.run_bind, Sem.run_pure, Result.andThen_ok, List.map_toArray, List.map_cons, List.map_nil, hs, hx, hrun]
  exact h v' w' h2 (below_of_grown hown h3 hbase) h3
theorem dkr_appJ {w : World} {B base : Nat} {A AS : Option Addr} {c cS : Nat} {D da : Dsk} {tx : List UInt8} (hs : Rd w B 1 A D.safe.length c (u8s D.safe)) (hB : B ≤ w.heap.size) (ho : w.ownsRow base 5 1 (.slice AS (D.wait.length + tx.length) cS) (D.wait.length + tx.length) (u8s (D.wait ++ tx))) (hda : da = ⟨D.safe, D.wait ++ tx⟩) : DkR w w.heap.size A AS c cS da := by
  subst hda
  refine ⟨hs.up hB, ?_⟩
  show Rd w w.heap.size 1 AS (D.wait ++ tx).length cS (u8s (D.wait ++ tx))
  rw [List.length_append]
  exact Rd.of_own ho
theorem dkr_cutJ {w : World} {B m : Nat} {A AT : Option Addr} {c c' : Nat} {D dx : Dsk} (hs : Rd w B 1 A D.safe.length c (u8s D.safe)) (ht : Rd w B 1 AT m c' (u8s (D.wait.take m))) (hdx : dx = ⟨D.safe, D.wait.take m⟩) : DkR w B A AT c c' dx := by
  subst hdx
  refine ⟨hs, ?_⟩
  have := ht.ofU8
  show Rd w B 1 AT (D.wait.take m).length c' (u8s (D.wait.take m))
  rw [this]; exact ht
theorem DkV.none_ (w0 w : World) : DkV w0 (w.alloc (.cells #[.slice none 0 0, .slice none 0 0] 36)) w.heap.size none none 0 0 noDsk := ⟨Blk.new _ _ _, World.ownsRow_nil _ _ _ _, World.ownsRow_nil _ _ _ _⟩
set_option maxHeartbeats 4000000 in
set_option maxRecDepth 100000 in
theorem journalSays_walk (D : Dsk) (A : Option Addr) (c : Nat) (A' : Option Addr) (c' : Nat) (cm : Cm) (n : Int) (w : World) (he : EnvF w) (hr : Rd w w.heap.size 1 A D.safe.length c (u8s D.safe)) (hq : Rd w w.heap.size 1 A' D.wait.length c' (u8s D.wait)) (fc : FitC cm) :
    Calls Tryd.prog 6 #[.agg #[.slice A D.safe.length c, .slice A' D.wait.length c'], .agg #[.int .i64 cm.kind, .int .i64 cm.acc, .int .i64 cm.market, .int .i64 cm.n, .int .i64 cm.o.id, .int .i64 cm.o.acc, .int .i64 cm.o.side, .int .i64 cm.o.price, .int .i64 cm.o.qty, .int .i64 cm.how, .bool cm.reduce], .int .i64 n] w fun e w' => e = .returned (.bool true) ∧ Below w.heap.size w w' := by
  have HE := Lib.hid he
  have HR := Lib.hid (show DkR w w.heap.size A A' c c' D from ⟨hr, hq⟩)
  have HFC := Lib.hid fc
  obtain ⟨da, ea, ha⟩ : ∃ d k, putD D cm = (d, k) := ⟨_, _, rfl⟩
  obtain ⟨db, eb, hb⟩ : ∃ d k, syncD D = (d, k) := ⟨_, _, rfl⟩
  obtain ⟨dx, ex, hx⟩ : ∃ d k, crashD D n = (d, k) := ⟨_, _, rfl⟩
  obtain ⟨dr, lr, er, hrc⟩ : ∃ d l k, recoverD D = (d, l, k) := ⟨_, _, _, rfl⟩
  have PA := Lib.hid ha
  have PB := Lib.hid hb
  have PX := Lib.hid hx
  have PR := Lib.hid hrc
  clear he hr hq fc ha hb hx hrc
  go_enter Tryd.func6, Tryd.ntmps6
  go_upto_region 1 with (fail)
  refine wp_nameT ?_
  intro w1 hw1
  have XD : Blk w1 w.heap.size 36 #[.slice A D.safe.length c, .slice A' D.wait.length c'] := by rw [hw1]; exact (Blk.new w _ _).alloc _
  have XC : Blk w1 (w.heap.size + 1) 25 #[.int .i64 cm.kind, .int .i64 cm.acc, .int .i64 cm.market, .int .i64 cm.n, .int .i64 cm.o.id, .int .i64 cm.o.acc, .int .i64 cm.o.side, .int .i64 cm.o.price, .int .i64 cm.o.qty, .int .i64 cm.how, .bool cm.reduce] := by
    rw [hw1]
    have := Blk.new (w.alloc (.cells #[.slice A D.safe.length c, .slice A' D.wait.length c'] 36)) 25 #[.int .i64 cm.kind, .int .i64 cm.acc, .int .i64 cm.market, .int .i64 cm.n, .int .i64 cm.o.id, .int .i64 cm.o.acc, .int .i64 cm.o.side, .int .i64 cm.o.price, .int .i64 cm.o.qty, .int .i64 cm.how, .bool cm.reduce]
    simpa using this
  have HB1 : Hid (Below w.heap.size w w1) := by rw [hw1]; exact Lib.hid (((Below.refl _ _).alloc (Nat.le_refl _) _).alloc (by simp) _)
  clear hw1
  have hs1 := HB1.out.size
  obtain ⟨q0, q1⟩ := bl_c2 XD
  obtain ⟨⟨a0, a1, a2, a3, a4, a5, a6, a7, a8, a9, a10⟩, -⟩ := bl_c11 XC
  go_wp2_with fail
  refine (putDisk_any D cm A A' c c' w.heap.size w1 (HR.out.below HB1.out) HB1.out.size (HE.out.next HB1.out).env HFC.out).mono ?_
  rintro e wc1 ⟨v, k, rfl, hk, hown, hb⟩
  rw [PA.out] at hk hown
  dsimp only at hk hown
  subst hk
  obtain ⟨A1, c1, E1, k1, rfl⟩ := hown.shape
  clear q0 q1 a0 a1 a2 a3 a4 a5 a6 a7 a8 a9 a10
  replace XD := XD.below hb XD.lt
  replace XC := XC.below hb XC.lt
  have HBc1 := Lib.hid (HB1.out.trans (hb.mono HB1.out.size))
  have HO1 := Lib.hid (hown.mono (base' := w.heap.size) HB1.out.size)
  clear hown hb
  go_upto_region 2 with (fail)
  refine wp_nameT ?_
  intro we1 hwe
  replace XD : Blk we1 w.heap.size 36 #[.slice A D.safe.length c, .slice A' D.wait.length c'] := by rw [hwe]; exact XD.alloc _
  replace XC : Blk we1 (w.heap.size + 1) 25 #[.int .i64 cm.kind, .int .i64 cm.acc, .int .i64 cm.market, .int .i64 cm.n, .int .i64 cm.o.id, .int .i64 cm.o.acc, .int .i64 cm.o.side, .int .i64 cm.o.price, .int .i64 cm.o.qty, .int .i64 cm.how, .bool cm.reduce] := by rw [hwe]; exact XC.alloc _
  have HBe1 : Hid (Below w.heap.size w we1) := by rw [hwe]; exact Lib.hid (HBc1.out.alloc HBc1.out.size _)
  have VA : DkV w we1 wc1.heap.size A1 E1 c1 k1 da := by rw [hwe]; exact DkV.new (d := da) (w0 := w) wc1 HO1.out
  clear hwe HO1 HBc1
  obtain ⟨q0, q1⟩ := bl_c2 XD
  go_wp2_with fail
  refine (sync_any D A A' c c' w.heap.size we1 (HR.out.below HBe1.out) HBe1.out.size (HE.out.next HBe1.out).env).mono ?_
  rintro e wc2 ⟨v, k, rfl, hk, hown, hb⟩
  rw [PB.out] at hk hown
  dsimp only at hk hown
  subst hk
  obtain ⟨A2, c2, E2, k2, rfl⟩ := hown.shape
  clear q0 q1
  replace VA := VA.below hb
  replace XD := XD.below hb XD.lt
  replace XC := XC.below hb XC.lt
  have HBc2 := Lib.hid (HBe1.out.trans (hb.mono HBe1.out.size))
  have HO2 := Lib.hid (hown.mono (base' := w.heap.size) HBe1.out.size)
  clear hown hb
  go_upto_region 3 with (fail)
  refine wp_nameT ?_
  intro we2 hwe
  replace VA : DkV w we2 wc1.heap.size A1 E1 c1 k1 da := by rw [hwe]; exact VA.alloc _
  replace XD : Blk we2 w.heap.size 36 #[.slice A D.safe.length c, .slice A' D.wait.length c'] := by rw [hwe]; exact XD.alloc _
  replace XC : Blk we2 (w.heap.size + 1) 25 #[.int .i64 cm.kind, .int .i64 cm.acc, .int .i64 cm.market, .int .i64 cm.n, .int .i64 cm.o.id, .int .i64 cm.o.acc, .int .i64 cm.o.side, .int .i64 cm.o.price, .int .i64 cm.o.qty, .int .i64 cm.how, .bool cm.reduce] := by rw [hwe]; exact XC.alloc _
  have HBe2 : Hid (Below w.heap.size w we2) := by rw [hwe]; exact Lib.hid (HBc2.out.alloc HBc2.out.size _)
  have VB : DkV w we2 wc2.heap.size A2 E2 c2 k2 db := by rw [hwe]; exact DkV.new (d := db) (w0 := w) wc2 HO2.out
  clear hwe HO2 HBc2
  obtain ⟨q0, q1⟩ := bl_c2 XD
  go_wp2_with fail
  refine (crash_any D n A A' c c' w.heap.size we2 (HR.out.below HBe2.out) HBe2.out.size (HE.out.next HBe2.out).env).mono ?_
  rintro e wc3 ⟨v, k, rfl, hk, hown, hb⟩
  rw [PX.out] at hk hown
  dsimp only at hk hown
  subst hk
  obtain ⟨A3, c3, E3, k3, rfl⟩ := hown.shape
  clear q0 q1
  replace VA := VA.below hb
  replace VB := VB.below hb
  replace XD := XD.below hb XD.lt
  replace XC := XC.below hb XC.lt
  have HBc3 := Lib.hid (HBe2.out.trans (hb.mono HBe2.out.size))
  have HO3 := Lib.hid (hown.mono (base' := w.heap.size) HBe2.out.size)
  clear hown hb
  go_upto_region 4 with (fail)
  refine wp_nameT ?_
  intro we3 hwe
  replace VA : DkV w we3 wc1.heap.size A1 E1 c1 k1 da := by rw [hwe]; exact VA.alloc _
  replace VB : DkV w we3 wc2.heap.size A2 E2 c2 k2 db := by rw [hwe]; exact VB.alloc _
  replace XD : Blk we3 w.heap.size 36 #[.slice A D.safe.length c, .slice A' D.wait.length c'] := by rw [hwe]; exact XD.alloc _
  replace XC : Blk we3 (w.heap.size + 1) 25 #[.int .i64 cm.kind, .int .i64 cm.acc, .int .i64 cm.market, .int .i64 cm.n, .int .i64 cm.o.id, .int .i64 cm.o.acc, .int .i64 cm.o.side, .int .i64 cm.o.price, .int .i64 cm.o.qty, .int .i64 cm.how, .bool cm.reduce] := by rw [hwe]; exact XC.alloc _
  have HBe3 : Hid (Below w.heap.size w we3) := by rw [hwe]; exact Lib.hid (HBc3.out.alloc HBc3.out.size _)
  have VX : DkV w we3 wc3.heap.size A3 E3 c3 k3 dx := by rw [hwe]; exact DkV.new (d := dx) (w0 := w) wc3 HO3.out
  clear hwe HO3 HBc3
  obtain ⟨q0, q1⟩ := bl_c2 XD
  go_wp2_with fail
  refine (recover_any D A A' c c' w.heap.size we3 (HR.out.below HBe3.out) HBe3.out.size (HE.out.next HBe3.out).env).mono ?_
  rintro e wc4 ⟨v, u, k, rfl, hk, hown, hrow, hb⟩
  rw [PR.out] at hk hown hrow
  dsimp only at hk hown hrow
  subst hk
  obtain ⟨A4, c4, E4, k4, rfl⟩ := hown.shape
  obtain ⟨AL, cL, rfl⟩ := own_shape hrow
  clear q0 q1
  replace VA := VA.below hb
  replace VB := VB.below hb
  replace VX := VX.below hb
  replace XD := XD.below hb XD.lt
  replace XC := XC.below hb XC.lt
  have HBc4 := Lib.hid (HBe3.out.trans (hb.mono HBe3.out.size))
  have HO4 := Lib.hid (hown.mono (base' := w.heap.size) HBe3.out.size)
  have HL := own_mono (base' := w.heap.size) hrow HBe3.out.size
  clear hown hb hrow
  go_upto_region 5 with (fail)
  refine wp_nameT ?_
  intro we4 hwe
  replace VA : DkV w we4 wc1.heap.size A1 E1 c1 k1 da := by rw [hwe]; exact VA.alloc _
  replace VB : DkV w we4 wc2.heap.size A2 E2 c2 k2 db := by rw [hwe]; exact VB.alloc _
  replace VX : DkV w we4 wc3.heap.size A3 E3 c3 k3 dx := by rw [hwe]; exact VX.alloc _
  replace XD : Blk we4 w.heap.size 36 #[.slice A D.safe.length c, .slice A' D.wait.length c'] := by rw [hwe]; exact XD.alloc _
  replace XC : Blk we4 (w.heap.size + 1) 25 #[.int .i64 cm.kind, .int .i64 cm.acc, .int .i64 cm.market, .int .i64 cm.n, .int .i64 cm.o.id, .int .i64 cm.o.acc, .int .i64 cm.o.side, .int .i64 cm.o.price, .int .i64 cm.o.qty, .int .i64 cm.how, .bool cm.reduce] := by rw [hwe]; exact XC.alloc _
  replace HL := (show World.ownsRow we4 _ _ _ _ _ _ by rw [hwe]; exact World.ownsRow.alloc HL _)
  have HBe4 : Hid (Below w.heap.size w we4) := by rw [hwe]; exact Lib.hid (HBc4.out.alloc HBc4.out.size _)
  have VR : DkV w we4 wc4.heap.size A4 E4 c4 k4 dr := by rw [hwe]; exact DkV.new (d := dr) (w0 := w) wc4 HO4.out
  clear hwe HO4 HBc4
  go_upto_region 6 with (fail)
  refine wp_nameT ?_
  intro w6 hwe
  replace VA : DkV w w6 wc1.heap.size A1 E1 c1 k1 da := by rw [hwe]; exact VA.alloc _
  replace VB : DkV w w6 wc2.heap.size A2 E2 c2 k2 db := by rw [hwe]; exact VB.alloc _
  replace VX : DkV w w6 wc3.heap.size A3 E3 c3 k3 dx := by rw [hwe]; exact VX.alloc _
  replace VR : DkV w w6 wc4.heap.size A4 E4 c4 k4 dr := by rw [hwe]; exact VR.alloc _
  replace XD : Blk w6 w.heap.size 36 #[.slice A D.safe.length c, .slice A' D.wait.length c'] := by rw [hwe]; exact XD.alloc _
  replace XC : Blk w6 (w.heap.size + 1) 25 #[.int .i64 cm.kind, .int .i64 cm.acc, .int .i64 cm.market, .int .i64 cm.n, .int .i64 cm.o.id, .int .i64 cm.o.acc, .int .i64 cm.o.side, .int .i64 cm.o.price, .int .i64 cm.o.qty, .int .i64 cm.how, .bool cm.reduce] := by rw [hwe]; exact XC.alloc _
  replace HL := (show World.ownsRow w6 _ _ _ _ _ _ by rw [hwe]; exact World.ownsRow.alloc HL _)
  have HB6 : Hid (Below w.heap.size w w6) := by rw [hwe]; exact Lib.hid (HBe4.out.alloc HBe4.out.size _)
  have VN : DkV w w6 we4.heap.size none none 0 0 noDsk := by rw [hwe]; exact DkV.none_ _ _
  clear hwe
  obtain ⟨q0, q1⟩ := bl_c2 XD
  go_wp2_with fail
  refine (rdCheck_any D A A' c c' w.heap.size w6 (HR.out.below HB6.out) HB6.out.size (HE.out.next HB6.out)).mono ?_
  rintro e wc5 ⟨rfl, hb⟩
  clear q0 q1
  replace VA := VA.below hb
  replace VB := VB.below hb
  replace VX := VX.below hb
  replace VR := VR.below hb
  replace VN := VN.below hb
  replace XD := XD.below hb XD.lt
  replace XC := XC.below hb XC.lt
  replace HL := own_below HL hb (Nat.le_refl _)
  have HBc5 := Lib.hid (HB6.out.trans (hb.mono HB6.out.size))
  clear hb
  go_wp2_with fail
  refine (journaled_any wc5 (HE.out.next HBc5.out).env).mono ?_
  rintro e wc6 ⟨rfl, hb⟩
  replace VA := VA.below hb
  replace VB := VB.below hb
  replace VX := VX.below hb
  replace VR := VR.below hb
  replace VN := VN.below hb
  replace XD := XD.below hb XD.lt
  replace XC := XC.below hb XC.lt
  replace HL := own_below HL hb (Nat.le_refl _)
  have HBc6 := Lib.hid (HBc5.out.trans (hb.mono HBc5.out.size))
  clear hb
  obtain ⟨q0, q1⟩ := bl_c2 XD
  go_wp2_with fail
  refine (diskCheck_any D A A' c c' w.heap.size wc6 (HR.out.below HBc6.out) HBc6.out.size (HE.out.next HBc6.out).env).mono ?_
  rintro e wc7 ⟨rfl, hb⟩
  clear q0 q1
  replace VA := VA.below hb
  replace VB := VB.below hb
  replace VX := VX.below hb
  replace VR := VR.below hb
  replace VN := VN.below hb
  replace XD := XD.below hb XD.lt
  replace XC := XC.below hb XC.lt
  replace HL := own_below HL hb (Nat.le_refl _)
  have HBc7 := Lib.hid (HBc6.out.trans (hb.mono HBc6.out.size))
  clear hb
  have HDE := Lib.hid (show putD D cm = if dErr D ≠ 0 then (noDsk, dErr D) else if (printOf cm).2 ≠ 0 then (noDsk, (printOf cm).2) else if 20000 < D.safe.length + D.wait.length + (printOf cm).1.length + 1 then (noDsk, 7) else (⟨D.safe, D.wait ++ (printOf cm).1 ++ [10]⟩, 0) from rfl)
  by_cases h0 : dErr D = 0
  rotate_left
  · obtain ⟨rfl, rfl⟩ : da = noDsk ∧ ea = dErr D := by
      have := PA.out
      unfold putD at this
      rw [if_pos h0] at this
      injection this with a b
      exact ⟨a.symm, b.symm⟩
    obtain ⟨rfl, rfl⟩ : db = noDsk ∧ eb = dErr D := by
      have := PB.out
      unfold syncD at this
      rw [if_pos h0] at this
      injection this with a b
      exact ⟨a.symm, b.symm⟩
    obtain ⟨rfl, rfl⟩ : dx = noDsk ∧ ex = dErr D := by
      have := PX.out
      unfold crashD at this
      rw [if_pos h0] at this
      injection this with a b
      exact ⟨a.symm, b.symm⟩
    obtain ⟨rfl, rfl, rfl⟩ : dr = noDsk ∧ lr = [] ∧ er = dErr D := by
      have := PR.out
      unfold recoverD at this
      rw [if_pos h0] at this
      injection this with a b
      injection b with b e
      exact ⟨a.symm, b.symm, e.symm⟩
    have d0 : (dErr D != 0) = true := by simpa using h0
    clear h0 PA PB PX PR HDE
    obtain ⟨q0, q1⟩ := bl_c2 VA.blk
    obtain ⟨p0, p1⟩ := bl_c2 VN.blk
    go_wp2_with fail
    refine (same_atJ noDsk A1 E1 none none c1 k1 0 0 wc7.heap.size wc7.heap.size wc7 VA.rd VN.rd (Nat.le_refl _) (Nat.le_refl _) rfl rfl rfl rfl).mono ?_
    rintro e wc8 ⟨rfl, hb⟩
    clear q0 q1 p0 p1
    replace VA := VA.below hb
    replace VB := VB.below hb
    replace VX := VX.below hb
    replace VR := VR.below hb
    replace VN := VN.below hb
    replace XD := XD.below hb XD.lt
    replace XC := XC.below hb XC.lt
    replace HL := own_below HL hb (Nat.le_refl _)
    have HBd9 := Lib.hid (HBc7.out.trans (hb.mono HBc7.out.size))
    clear hb
    obtain ⟨q0, q1⟩ := bl_c2 VB.blk
    obtain ⟨p0, p1⟩ := bl_c2 VN.blk
    go_wp2_with fail
    refine (same_atJ noDsk A2 E2 none none c2 k2 0 0 wc8.heap.size wc8.heap.size wc8 VB.rd VN.rd (Nat.le_refl _) (Nat.le_refl _) rfl rfl rfl rfl).mono ?_
    rintro e wc10 ⟨rfl, hb⟩
    clear q0 q1 p0 p1
    replace VA := VA.below hb
    replace VB := VB.below hb
    replace VX := VX.below hb
    replace VR := VR.below hb
    replace VN := VN.below hb
    replace XD := XD.below hb XD.lt
    replace XC := XC.below hb XC.lt
    replace HL := own_below HL hb (Nat.le_refl _)
    have HBd11 := Lib.hid (HBd9.out.trans (hb.mono HBd9.out.size))
    clear hb
    obtain ⟨q0, q1⟩ := bl_c2 VX.blk
    obtain ⟨p0, p1⟩ := bl_c2 VN.blk
    go_wp2_with fail
    refine (same_atJ noDsk A3 E3 none none c3 k3 0 0 wc10.heap.size wc10.heap.size wc10 VX.rd VN.rd (Nat.le_refl _) (Nat.le_refl _) rfl rfl rfl rfl).mono ?_
    rintro e wc12 ⟨rfl, hb⟩
    clear q0 q1 p0 p1
    replace VA := VA.below hb
    replace VB := VB.below hb
    replace VX := VX.below hb
    replace VR := VR.below hb
    replace VN := VN.below hb
    replace XD := XD.below hb XD.lt
    replace XC := XC.below hb XC.lt
    replace HL := own_below HL hb (Nat.le_refl _)
    have HBd13 := Lib.hid (HBd11.out.trans (hb.mono HBd11.out.size))
    clear hb
    obtain ⟨q0, q1⟩ := bl_c2 VR.blk
    obtain ⟨p0, p1⟩ := bl_c2 VN.blk
    go_wp2_with fail
    refine (same_atJ noDsk A4 E4 none none c4 k4 0 0 wc12.heap.size wc12.heap.size wc12 VR.rd VN.rd (Nat.le_refl _) (Nat.le_refl _) rfl rfl rfl rfl).mono ?_
    rintro e wc14 ⟨rfl, hb⟩
    clear q0 q1 p0 p1
    replace VA := VA.below hb
    replace VB := VB.below hb
    replace VX := VX.below hb
    replace VR := VR.below hb
    replace VN := VN.below hb
    replace XD := XD.below hb XD.lt
    replace XC := XC.below hb XC.lt
    replace HL := own_below HL hb (Nat.le_refl _)
    have HBd15 := Lib.hid (HBd13.out.trans (hb.mono HBd13.out.size))
    clear hb
    go_wp2_with fail
    go_ret
    exact ⟨rfl, HBd15.out⟩
  have HL0 := Lib.hid (dErr_ok.1 h0)
  rw [h0]
  go_upto_if 59 with (fail)
  iterate 5 (go_step)
  go_cut [] from 24 (fun wr => Below wc7.heap.size wc7 wr)
  case first => as_aux_lemma =>
    have HT0 := Lib.hid (Below.refl wc7.heap.size wc7)
    obtain ⟨⟨a0, a1, a2, a3, a4, a5, a6, a7, a8, a9, a10⟩, -⟩ := bl_c11 XC
    go_wp2_with fail
    refine (refCheck_any cm wc7).mono ?_
    rintro e wq1 ⟨rfl, hb⟩
    rw [cmdErr_eq]
    clear a0 a1 a2 a3 a4 a5 a6 a7 a8 a9 a10
    replace VA := VA.below hb
    replace VB := VB.below hb
    replace VX := VX.below hb
    replace VR := VR.below hb
    replace VN := VN.below hb
    replace XD := XD.below hb XD.lt
    replace XC := XC.below hb XC.lt
    replace HL := own_below HL hb (Nat.le_refl _)
    have HBd16 := Lib.hid (HBc7.out.trans (hb.mono HBc7.out.size))
    have HT16 := Lib.hid (HT0.out.trans (hb.mono HT0.out.size))
    clear hb
    by_cases h1 : textErr cm = 0
    rotate_left
    · obtain ⟨rfl, rfl⟩ : da = noDsk ∧ ea = textErr cm := by
        have := PA.out
        rw [HDE.out, if_neg (by omega), if_pos (by unfold printOf; rw [if_pos h1]; exact h1)] at this
        injection this with a b
        refine ⟨a.symm, ?_⟩
        rw [← b]; unfold printOf; rw [if_pos h1]
      have d1 : (textErr cm != 0) = true := by simpa using h1
      clear h1 PA
      obtain ⟨q0, q1⟩ := bl_c2 VA.blk
      obtain ⟨p0, p1⟩ := bl_c2 VN.blk
      go_wp2_with fail
      refine (same_atJ noDsk A1 E1 none none c1 k1 0 0 wq1.heap.size wq1.heap.size wq1 VA.rd VN.rd (Nat.le_refl _) (Nat.le_refl _) rfl rfl rfl rfl).mono ?_
      rintro e wc17 ⟨rfl, hb⟩
      clear q0 q1 p0 p1
      replace VA := VA.below hb
      replace VB := VB.below hb
      replace VX := VX.below hb
      replace VR := VR.below hb
      replace VN := VN.below hb
      replace XD := XD.below hb XD.lt
      replace XC := XC.below hb XC.lt
      replace HL := own_below HL hb (Nat.le_refl _)
      have HBd18 := Lib.hid (HBd16.out.trans (hb.mono HBd16.out.size))
      have HT18 := Lib.hid (HT16.out.trans (hb.mono HT16.out.size))
      clear hb
      go_wp2_with fail
      go_meet
      case rel => exact HT18.out
    have HTO := Lib.hid (textErr_ok h1)
    have hpr : printOf cm = (cmdText cm, 0) := by unfold printOf; rw [if_neg (by omega), ← cmdText_eq h1]
    have hpl := print_len hpr HFC.out rfl
    obtain ⟨tx, htx⟩ : ∃ tx, cmdText cm ++ [10] = tx := ⟨_, rfl⟩
    have hbx : bs (cmdText cm) ++ (⟨#[10]⟩ : ByteArray) = bs tx := by rw [← htx]; exact bs_app _ _
    have hlx : tx.length = (cmdText cm).length + 1 := by rw [← htx]; simp
    have HDE2 := Lib.hid (show putD D cm = if 20000 < D.safe.length + D.wait.length + tx.length then (noDsk, 7) else (⟨D.safe, D.wait ++ tx⟩, 0) by
      rw [HDE.out, if_neg (by omega), hpr, if_neg (by simp), hlx, ← htx]
      simp only [List.append_assoc, Nat.add_assoc])
    have hsx : ¬ 9223372036854775807 < (bs (cmdText cm)).size + 1 := by rw [bs_size]; omega
    have HSZ := Lib.hid (show (bs tx).size = tx.length from bs_size tx)
    have hxl : tx.length ≤ 200 := by omega
    rw [h1]
    clear h1 hpr hpl htx hlx HDE
    obtain ⟨⟨a0, a1, a2, a3, a4, a5, a6, a7, a8, a9, a10⟩, -⟩ := bl_c11 XC
    go_wp2_with fail
    refine (refText_any cm wq1 (HE.out.next HBd16.out) HFC.out HTO.out.1 HTO.out.2.1).mono ?_
    rintro e wq2 ⟨rfl, hb⟩
    clear a0 a1 a2 a3 a4 a5 a6 a7 a8 a9 a10
    replace VA := VA.below hb
    replace VB := VB.below hb
    replace VX := VX.below hb
    replace VR := VR.below hb
    replace VN := VN.below hb
    replace XD := XD.below hb XD.lt
    replace XC := XC.below hb XC.lt
    replace HL := own_below HL hb (Nat.le_refl _)
    have HBd19 := Lib.hid (HBd16.out.trans (hb.mono HBd16.out.size))
    have HT19 := Lib.hid (HT16.out.trans (hb.mono HT16.out.size))
    clear hb
    obtain ⟨hl0, -⟩ := HL0.out
    obtain ⟨q0, q1⟩ := bl_c2 XD
    go_upto_region 16 with (fail)
    clear hbx hsx
    have hsz := HSZ.out
    by_cases h2 : 20000 < D.safe.length + D.wait.length + tx.length
    · obtain ⟨rfl, rfl⟩ : da = noDsk ∧ ea = 7 := by
        have := PA.out
        rw [HDE2.out, if_pos h2] at this
        injection this with a b
        exact ⟨a.symm, b.symm⟩
      have h2' : 20000 < (D.safe.length : Int) + (D.wait.length : Int) + (tx.length : Int) := by omega
      clear PA h2
      go_upto_if 129 with (fail)
      clear q0 q1
      obtain ⟨q0, q1⟩ := bl_c2 VA.blk
      obtain ⟨p0, p1⟩ := bl_c2 VN.blk
      go_wp2_with fail
      refine (same_atJ noDsk A1 E1 none none c1 k1 0 0 wq2.heap.size wq2.heap.size wq2 VA.rd VN.rd (Nat.le_refl _) (Nat.le_refl _) rfl rfl rfl rfl).mono ?_
      rintro e wc20 ⟨rfl, hb⟩
      clear q0 q1 p0 p1
      replace VA := VA.below hb
      replace VB := VB.below hb
      replace VX := VX.below hb
      replace VR := VR.below hb
      replace VN := VN.below hb
      replace XD := XD.below hb XD.lt
      replace XC := XC.below hb XC.lt
      replace HL := own_below HL hb (Nat.le_refl _)
      have HBd21 := Lib.hid (HBd19.out.trans (hb.mono HBd19.out.size))
      have HT21 := Lib.hid (HT19.out.trans (hb.mono HT19.out.size))
      clear hb
      go_wp2_with fail
      go_meet
      case rel => exact HT21.out
    · obtain ⟨hda, rfl⟩ : da = ⟨D.safe, D.wait ++ tx⟩ ∧ ea = 0 := by
        have := PA.out
        rw [HDE2.out, if_neg h2] at this
        injection this with a b
        exact ⟨a.symm, b.symm⟩
      have h2' : ¬ 20000 < (D.safe.length : Int) + (D.wait.length : Int) + (tx.length : Int) := by omega
      have HDA := Lib.hid hda
      clear PA h2 hda
      go_upto_region 19 with (fail)
      clear q0 q1
      have KS : Hid (∀ W', Below wq2.heap.size wq2 W' → W'.cell? ⟨wc1.heap.size, 0, none⟩ = some (.slice A1 da.safe.length c1) ∧ W'.cell? ⟨wc1.heap.size, 1, none⟩ = some (.slice E1 da.wait.length k1) ∧ W'.cell? ⟨w.heap.size, 0, none⟩ = some (.slice A D.safe.length c) ∧ W'.cell? ⟨w.heap.size, 1, none⟩ = some (.slice A' D.wait.length c')) := Lib.hid fun W' hW => ⟨(bl_c2 (VA.below hW).blk).1, (bl_c2 (VA.below hW).blk).2, bl_c2 (XD.below hW XD.lt)⟩
      have h00 : Below wq2.heap.size wq2 wq2 := Below.refl _ _
      have HRW := Lib.hid (HR.out.below HBd19.out)
      have HVA := Lib.hid (fun W' (hW : Below wq2.heap.size wq2 W') => (VA.below hW).rd)
      have hbW := HBd19.out.size
      have HTW := HT19
      go_region_held3 (fun W' => W'.cell? ⟨wc1.heap.size, 0, none⟩ = some (.slice A1 da.safe.length c1) ∧ W'.cell? ⟨wc1.heap.size, 1, none⟩ = some (.slice E1 da.wait.length k1) ∧ W'.cell? ⟨w.heap.size, 0, none⟩ = some (.slice A D.safe.length c) ∧ W'.cell? ⟨w.heap.size, 1, none⟩ = some (.slice A' D.wait.length c'))
        (exact KS.out _ (by first | assumption | exact below_drewT (by assumption)))
        ((first
          | (go_at_call 23; go_split_ands; (with_reducible refine (clone_u8 A' D.wait.length c' D.wait w.heap.size _ (HRW.out.t.below (Below.mono (w := wq2) (B := wq2.heap.size) (by first | assumption | exact below_drewT (by assumption)) hbW)) (Nat.le_trans hbW (Below.size (w := wq2) (B := wq2.heap.size) (by first | assumption | exact below_drewT (by assumption)))) (by omega)).mono ?_); rintro e WB ⟨vB, rfl, hownB, hbB⟩; obtain ⟨AB, cB, rfl⟩ := own_shape hownB; have hXB : Below wq2.heap.size wq2 WB := below_nextD hbB (by first | assumption | exact below_drewT (by assumption)); have hsB : wq2.heap.size ≤ WB.heap.size := hXB.size)
          | (rw [if_pos (by rfl)]; refine wp_strJ (.tmp 146) (.tmp 147) 33 9 rfl wq2.heap.size 5 Tryd.underlying9 elem_u8 zero_u8 (.slice AB D.wait.length cB) D.wait.length D.wait (by simp [Act.eval]) hownB tx (by simp [Act.eval]) (by omega) hsB ?_; intro vS wS hownS hbS hgrS; obtain ⟨AS, cS, rfl⟩ := own_shape hownS; have hXS : Below wq2.heap.size wq2 wS := hXB.trans hbS; clear hgrS hbS)
          | (go_at_call 14; go_split_ands; refine (same_atJ da A1 E1 A AS c1 k1 c cS wS.heap.size wS.heap.size wS (HVA.out wS hXS) (dkr_appJ (HRW.out.s.below (hXS.mono hbW)) (Nat.le_trans hbW hXS.size) hownS HDA.out) (Nat.le_refl _) (Nat.le_refl _) rfl rfl (by rw [HDA.out]) (by rw [HDA.out, List.length_append])).mono ?_; rintro e wF ⟨rfl, hbF⟩; have hXF : Below wq2.heap.size wq2 wF := below_nextD hbF hXS)
          | fail "none"))
      all_goals
        go_wp2_with fail
        go_meet
        case rel => exact HTW.out.trans (hXF.mono HTW.out.size)
  case rest => as_aux_lemma =>
    revert wc
    intro wr1 hb
    replace VA := VA.below hb
    replace VB := VB.below hb
    replace VX := VX.below hb
    replace VR := VR.below hb
    replace VN := VN.below hb
    replace XD := XD.below hb XD.lt
    replace XC := XC.below hb XC.lt
    replace HL := own_below HL hb (Nat.le_refl _)
    have HBd22 := Lib.hid (HBc7.out.trans (hb.mono HBc7.out.size))
    clear hb
    obtain ⟨hl0, -⟩ := HL0.out
    obtain ⟨q0, q1⟩ := bl_c2 XD
    go_wp2_with fail
    refine calls_nameT ?_
    intro wy hwy
    have Y3 : Blk wy wr1.heap.size 33 #[.slice A D.safe.length c, .slice A' D.wait.length c'] := by rw [hwy]; exact Blk.new wr1 _ _
    have hb : Below wr1.heap.size wr1 wy := by rw [hwy]; exact (Below.refl _ _).alloc (Nat.le_refl _) _
    clear hwy q0 q1
    replace VA := VA.below hb
    replace VB := VB.below hb
    replace VX := VX.below hb
    replace VR := VR.below hb
    replace VN := VN.below hb
    replace XD := XD.below hb XD.lt
    replace XC := XC.below hb XC.lt
    replace HL := own_below HL hb (Nat.le_refl _)
    have HBd23 := Lib.hid (HBd22.out.trans (hb.mono HBd22.out.size))
    clear hb
    obtain ⟨q0, q1⟩ := bl_c2 Y3
    refine (concat_u8 A A' D.safe.length c D.wait.length c' D.safe D.wait w.heap.size wy (HR.out.s.below HBd23.out) (HR.out.t.below HBd23.out) HBd23.out.size wr1.heap.size Y3.lt q0 q1 (by omega)).mono ?_
    rintro e wz ⟨v, rfl, hown, hb⟩
    obtain ⟨AZ, cZ, rfl⟩ := own_shape hown
    clear q0 q1 Y3
    have HOZ := Lib.hid (own_mono (base' := w.heap.size) hown HBd23.out.size)
    clear hown
    replace VA := VA.below hb
    replace VB := VB.below hb
    replace VX := VX.below hb
    replace VR := VR.below hb
    replace VN := VN.below hb
    replace XD := XD.below hb XD.lt
    replace XC := XC.below hb XC.lt
    replace HL := own_below HL hb (Nat.le_refl _)
    have HBd24 := Lib.hid (HBd23.out.trans (hb.mono HBd23.out.size))
    clear hb
    go_upto_region 22 with (fail)
    refine wp_nameT ?_
    intro w22 hwe
    have HOA := Lib.hid (ownDk_mk (t := []) HOZ.out (World.ownsRow_nil _ _ _ _))
    have hlz : (D.safe ++ D.wait).length = D.safe.length + D.wait.length := List.length_append
    replace VA : DkV w w22 wc1.heap.size A1 E1 c1 k1 da := by rw [hwe]; exact VA.alloc _
    replace VB : DkV w w22 wc2.heap.size A2 E2 c2 k2 db := by rw [hwe]; exact VB.alloc _
    replace VX : DkV w w22 wc3.heap.size A3 E3 c3 k3 dx := by rw [hwe]; exact VX.alloc _
    replace VR : DkV w w22 wc4.heap.size A4 E4 c4 k4 dr := by rw [hwe]; exact VR.alloc _
    replace VN : DkV w w22 we4.heap.size none none 0 0 noDsk := by rw [hwe]; exact VN.alloc _
    replace XD : Blk w22 w.heap.size 36 #[.slice A D.safe.length c, .slice A' D.wait.length c'] := by rw [hwe]; exact XD.alloc _
    replace XC : Blk w22 (w.heap.size + 1) 25 #[.int .i64 cm.kind, .int .i64 cm.acc, .int .i64 cm.market, .int .i64 cm.n, .int .i64 cm.o.id, .int .i64 cm.o.acc, .int .i64 cm.o.side, .int .i64 cm.o.price, .int .i64 cm.o.qty, .int .i64 cm.how, .bool cm.reduce] := by rw [hwe]; exact XC.alloc _
    replace HL := (show World.ownsRow w22 _ _ _ _ _ _ by rw [hwe]; exact World.ownsRow.alloc HL _)
    have HB22 : Hid (Below w.heap.size w w22) := by rw [hwe]; exact Lib.hid (HBd24.out.alloc HBd24.out.size _)
    have VL : DkV w w22 wz.heap.size AZ none cZ 0 ⟨D.safe ++ D.wait, []⟩ := by rw [hwe, ← hlz]; exact DkV.new (d := ⟨D.safe ++ D.wait, []⟩) (w0 := w) wz (by have := HOA.out; rw [← hlz] at this; exact this)
    clear hwe HOA HOZ
    have HDS := Lib.hid (show syncD D = if dErr ⟨D.safe ++ D.wait, []⟩ ≠ 0 then (noDsk, dErr ⟨D.safe ++ D.wait, []⟩) else (⟨D.safe ++ D.wait, []⟩, 0) by unfold syncD; rw [if_neg (by omega)])
    obtain ⟨da2, hda2⟩ : ∃ z : Dsk, z = ⟨D.safe ++ D.wait, []⟩ := ⟨_, rfl⟩
    rw [← hda2] at HDS VL
    have HDA2 := Lib.hid hda2
    have VLr := VL.rd
    clear hda2
    obtain ⟨q0, q1⟩ := bl_c2 VL.blk
    go_wp2_with fail
    refine (rdCheck_any da2 AZ none cZ 0 w22.heap.size w22 VLr (Nat.le_refl _) (HE.out.next HB22.out)).mono ?_
    rintro e wk ⟨rfl, hb⟩
    clear q0 q1 VLr
    replace VA := VA.below hb
    replace VB := VB.below hb
    replace VX := VX.below hb
    replace VR := VR.below hb
    replace VN := VN.below hb
    replace VL := VL.below hb
    replace XD := XD.below hb XD.lt
    replace XC := XC.below hb XC.lt
    replace HL := own_below HL hb (Nat.le_refl _)
    have HBd25 := Lib.hid (HB22.out.trans (hb.mono HB22.out.size))
    clear hb
    go_upto_if 163 with (fail)
    go_cut [] from 17 (fun wr => Below wk.heap.size wk wr)
    case first =>
      have HT1 := Lib.hid (Below.refl wk.heap.size wk)
      by_cases h3 : dErr da2 = 0
      · obtain ⟨rfl, rfl⟩ : db = da2 ∧ eb = 0 := by
          have := PB.out
          rw [HDS.out, if_neg (by omega)] at this
          injection this with a b
          exact ⟨a.symm, b.symm⟩
        rw [h3]
        clear h3 PB HDS
        obtain ⟨q0, q1⟩ := bl_c2 VB.blk
        obtain ⟨p0, p1⟩ := bl_c2 VL.blk
        go_wp2_with fail
        refine (same_atJ db A2 E2 AZ none c2 k2 cZ 0 wk.heap.size wk.heap.size wk VB.rd VL.rd (Nat.le_refl _) (Nat.le_refl _) rfl rfl rfl rfl).mono ?_
        rintro e wc26 ⟨rfl, hb⟩
        clear q0 q1 p0 p1
        replace VA := VA.below hb
        replace VB := VB.below hb
        replace VX := VX.below hb
        replace VR := VR.below hb
        replace VN := VN.below hb
        replace VL := VL.below hb
        replace XD := XD.below hb XD.lt
        replace XC := XC.below hb XC.lt
        replace HL := own_below HL hb (Nat.le_refl _)
        have HBd27 := Lib.hid (HBd25.out.trans (hb.mono HBd25.out.size))
        have HT27 := Lib.hid (HT1.out.trans (hb.mono HT1.out.size))
        clear hb
        go_wp2_with fail
        go_meet
        case rel => exact HT27.out
      · obtain ⟨rfl, rfl⟩ : db = noDsk ∧ eb = dErr da2 := by
          have := PB.out
          rw [HDS.out, if_pos h3] at this
          injection this with a b
          exact ⟨a.symm, b.symm⟩
        have d3 : (dErr da2 != 0) = true := by simpa using h3
        clear h3 PB HDS
        obtain ⟨q0, q1⟩ := bl_c2 VB.blk
        obtain ⟨p0, p1⟩ := bl_c2 VN.blk
        go_wp2_with fail
        refine (same_atJ noDsk A2 E2 none none c2 k2 0 0 wk.heap.size wk.heap.size wk VB.rd VN.rd (Nat.le_refl _) (Nat.le_refl _) rfl rfl rfl rfl).mono ?_
        rintro e wc28 ⟨rfl, hb⟩
        clear q0 q1 p0 p1
        replace VA := VA.below hb
        replace VB := VB.below hb
        replace VX := VX.below hb
        replace VR := VR.below hb
        replace VN := VN.below hb
        replace VL := VL.below hb
        replace XD := XD.below hb XD.lt
        replace XC := XC.below hb XC.lt
        replace HL := own_below HL hb (Nat.le_refl _)
        have HBd29 := Lib.hid (HBd25.out.trans (hb.mono HBd25.out.size))
        have HT29 := Lib.hid (HT1.out.trans (hb.mono HT1.out.size))
        clear hb
        go_wp2_with fail
        go_meet
        case rel => exact HT29.out
    case rest => as_aux_lemma =>
      clear VL PB HDS HDA2
      revert wc
      intro wr2 hb
      replace VA := VA.below hb
      replace VB := VB.below hb
      replace VX := VX.below hb
      replace VR := VR.below hb
      replace VN := VN.below hb
      replace XD := XD.below hb XD.lt
      replace XC := XC.below hb XC.lt
      replace HL := own_below HL hb (Nat.le_refl _)
      have HBd30 := Lib.hid (HBd25.out.trans (hb.mono HBd25.out.size))
      clear hb
      go_step
      go_step
      go_cut [] from 17 (fun wr => Below wr2.heap.size wr2 wr)
      case first =>
        have HT2 := Lib.hid (Below.refl wr2.heap.size wr2)
        have HDX := Lib.hid (show crashD D n = if n < 0 ∨ (D.wait.length : Int) < n then (noDsk, 3) else (⟨D.safe, D.wait.take n.toNat⟩, 0) by unfold crashD; rw [if_neg (by omega)])
        by_cases hn : n < 0 ∨ (D.wait.length : Int) < n
        · obtain ⟨rfl, rfl⟩ : dx = noDsk ∧ ex = 3 := by
            have := PX.out
            rw [HDX.out, if_pos hn] at this
            injection this with a b
            exact ⟨a.symm, b.symm⟩
          clear PX HDX
          by_cases hn0 : n < 0
          · skip
            obtain ⟨x0, x1⟩ := bl_c2 XD
            have hn1 : n < 0 ∨ ¬ n < 0 ∧ (D.wait.length : Int) < n := by omega
            go_upto_if 189 with (fail)
            clear x0 x1 hn1
            obtain ⟨q0, q1⟩ := bl_c2 VX.blk
            obtain ⟨p0, p1⟩ := bl_c2 VN.blk
            go_wp2_with fail
            refine (same_atJ noDsk A3 E3 none none c3 k3 0 0 wr2.heap.size wr2.heap.size wr2 VX.rd VN.rd (Nat.le_refl _) (Nat.le_refl _) rfl rfl rfl rfl).mono ?_
            rintro e wc31 ⟨rfl, hb⟩
            clear q0 q1 p0 p1
            replace VA := VA.below hb
            replace VB := VB.below hb
            replace VX := VX.below hb
            replace VR := VR.below hb
            replace VN := VN.below hb
            replace XD := XD.below hb XD.lt
            replace XC := XC.below hb XC.lt
            replace HL := own_below HL hb (Nat.le_refl _)
            have HBd32 := Lib.hid (HBd30.out.trans (hb.mono HBd30.out.size))
            have HT32 := Lib.hid (HT2.out.trans (hb.mono HT2.out.size))
            clear hb
            go_wp2_with fail
            go_meet
            case rel => exact HT32.out
          · skip
            obtain ⟨x0, x1⟩ := bl_c2 XD
            have hn1 : n < 0 ∨ ¬ n < 0 ∧ (D.wait.length : Int) < n := by omega
            go_upto_if 189 with (fail)
            clear x0 x1 hn1
            obtain ⟨q0, q1⟩ := bl_c2 VX.blk
            obtain ⟨p0, p1⟩ := bl_c2 VN.blk
            go_wp2_with fail
            refine (same_atJ noDsk A3 E3 none none c3 k3 0 0 wr2.heap.size wr2.heap.size wr2 VX.rd VN.rd (Nat.le_refl _) (Nat.le_refl _) rfl rfl rfl rfl).mono ?_
            rintro e wc33 ⟨rfl, hb⟩
            clear q0 q1 p0 p1
            replace VA := VA.below hb
            replace VB := VB.below hb
            replace VX := VX.below hb
            replace VR := VR.below hb
            replace VN := VN.below hb
            replace XD := XD.below hb XD.lt
            replace XC := XC.below hb XC.lt
            replace HL := own_below HL hb (Nat.le_refl _)
            have HBd34 := Lib.hid (HBd30.out.trans (hb.mono HBd30.out.size))
            have HT34 := Lib.hid (HT2.out.trans (hb.mono HT2.out.size))
            clear hb
            go_wp2_with fail
            go_meet
            case rel => exact HT34.out
        · obtain ⟨hdx, rfl⟩ : dx = ⟨D.safe, D.wait.take n.toNat⟩ ∧ ex = 0 := by
            have := PX.out
            rw [HDX.out, if_neg hn] at this
            injection this with a b
            exact ⟨a.symm, b.symm⟩
          obtain ⟨m, hm⟩ : ∃ m : Nat, n = (m : Int) := ⟨n.toNat, by omega⟩
          have hmn : m ≤ D.wait.length := by omega
          have HDA := Lib.hid (show dx = ⟨D.safe, D.wait.take m⟩ by rw [hdx, hm]; rfl)
          have HRW := Lib.hid (HR.out.below HBd30.out)
          obtain ⟨AT, hcut0, hrt⟩ := cut_h elem_u8 HRW.out.t m hmn
          have hcut : ∀ w', (Instr.slice 33 (.slice A' D.wait.length c') none (some (.int .i64 n)) none).run Tryd.prog w' = .ok (.slice AT m c') w' := by rw [hm]; exact hcut0
          have HRT := Lib.hid (show Rd wr2 w.heap.size 1 AT m c' (u8s (D.wait.take m)) by rw [show (u8s D.wait).take (m * 1) = u8s (D.wait.take m) by simp [u8s, List.map_take]] at hrt; exact hrt)
          have hn0 : ¬ n < 0 := by omega
          have hn1 : ¬ (D.wait.length : Int) < n := by omega
          have HMN := Lib.hid hmn
          clear PX HDX hn hdx hm hcut0 hrt hmn
          obtain ⟨x0, x1⟩ := bl_c2 XD
          go_upto_region 31 with (fail)
          clear x0 x1 hn0 hn1
          have KS : Hid (∀ W', Below wr2.heap.size wr2 W' → W'.cell? ⟨wc3.heap.size, 0, none⟩ = some (.slice A3 dx.safe.length c3) ∧ W'.cell? ⟨wc3.heap.size, 1, none⟩ = some (.slice E3 dx.wait.length k3) ∧ W'.cell? ⟨w.heap.size, 0, none⟩ = some (.slice A D.safe.length c) ∧ W'.cell? ⟨w.heap.size, 1, none⟩ = some (.slice A' D.wait.length c')) := Lib.hid fun W' hW => ⟨(bl_c2 (VX.below hW).blk).1, (bl_c2 (VX.below hW).blk).2, bl_c2 (XD.below hW XD.lt)⟩
          have h00 : Below wr2.heap.size wr2 wr2 := Below.refl _ _
          have HVX := Lib.hid (fun W' (hW : Below wr2.heap.size wr2 W') => (VX.below hW).rd)
          have hbW := HBd30.out.size
          go_region_held3 (fun W' => W'.cell? ⟨wc3.heap.size, 0, none⟩ = some (.slice A3 dx.safe.length c3) ∧ W'.cell? ⟨wc3.heap.size, 1, none⟩ = some (.slice E3 dx.wait.length k3) ∧ W'.cell? ⟨w.heap.size, 0, none⟩ = some (.slice A D.safe.length c) ∧ W'.cell? ⟨w.heap.size, 1, none⟩ = some (.slice A' D.wait.length c'))
            (exact KS.out _ (by first | assumption | exact below_drewT (by assumption)))
            ((first
              | (go_at_call 14; go_split_ands; refine (same_atJ dx A3 E3 A AT c3 k3 c c' wr2.heap.size w.heap.size wr2.drew (HVX.out wr2.drew (below_drewT h00)) (dkr_cutJ (HRW.out.s.below (B := w.heap.size) (below_drewT (w0 := wr2) h00 |>.mono hbW)) (HRT.out.below (below_drewT (w0 := wr2) h00 |>.mono hbW)) HDA.out) (Nat.le_refl _) hbW rfl rfl (by rw [HDA.out]) (by rw [HDA.out]; exact List.length_take.trans (Nat.min_eq_left HMN.out))).mono ?_; rintro e wF ⟨rfl, hbF⟩; have hXF : Below wr2.heap.size wr2 wF := below_nextD hbF (below_drewT h00))
              | fail "none"))
          all_goals
            go_wp2_with fail
            go_meet
            case rel => exact hXF
      case rest =>
        revert wc
        intro wr3 hb
        replace VA := VA.below hb
        replace VB := VB.below hb
        replace VX := VX.below hb
        replace VR := VR.below hb
        replace VN := VN.below hb
        replace XD := XD.below hb XD.lt
        replace XC := XC.below hb XC.lt
        replace HL := own_below HL hb (Nat.le_refl _)
        have HBd35 := Lib.hid (HBd30.out.trans (hb.mono HBd30.out.size))
        clear hb
        have HER := Lib.hid (show er = 0 by have := PR.out; unfold recoverD at this; rw [if_neg (by omega)] at this; injection this with a b; injection b with b e; exact e.symm)
        obtain ⟨q0, q1⟩ := bl_c2 XD
        go_wp2_with fail
        refine (rrec_any D A A' c c' w.heap.size wr3 (HR.out.below HBd35.out) HBd35.out.size (HE.out.next HBd35.out) h0).mono ?_
        rintro e wl ⟨v, vl, rfl, hown, hrow, hb⟩
        rw [PR.out] at hown hrow
        dsimp only at hown hrow
        obtain ⟨AD, cD, ED, kD, rfl⟩ := hown.shape
        obtain ⟨AM, cM, rfl⟩ := own_shape hrow
        clear q0 q1
        have HOD := Lib.hid (hown.mono (base' := w.heap.size) HBd35.out.size)
        have HM := own_mono (base' := w.heap.size) hrow HBd35.out.size
        clear hown hrow
        replace VA := VA.below hb
        replace VB := VB.below hb
        replace VX := VX.below hb
        replace VR := VR.below hb
        replace VN := VN.below hb
        replace XD := XD.below hb XD.lt
        replace XC := XC.below hb XC.lt
        replace HL := own_below HL hb (Nat.le_refl _)
        have HBd36 := Lib.hid (HBd35.out.trans (hb.mono HBd35.out.size))
        clear hb
        go_upto_region 34 with (fail)
        refine wp_nameT ?_
        intro w34 hwe
        replace VA : DkV w w34 wc1.heap.size A1 E1 c1 k1 da := by rw [hwe]; exact VA.alloc _
        replace VB : DkV w w34 wc2.heap.size A2 E2 c2 k2 db := by rw [hwe]; exact VB.alloc _
        replace VX : DkV w w34 wc3.heap.size A3 E3 c3 k3 dx := by rw [hwe]; exact VX.alloc _
        replace VR : DkV w w34 wc4.heap.size A4 E4 c4 k4 dr := by rw [hwe]; exact VR.alloc _
        replace VN : DkV w w34 we4.heap.size none none 0 0 noDsk := by rw [hwe]; exact VN.alloc _
        replace XD : Blk w34 w.heap.size 36 #[.slice A D.safe.length c, .slice A' D.wait.length c'] := by rw [hwe]; exact XD.alloc _
        replace XC : Blk w34 (w.heap.size + 1) 25 #[.int .i64 cm.kind, .int .i64 cm.acc, .int .i64 cm.market, .int .i64 cm.n, .int .i64 cm.o.id, .int .i64 cm.o.acc, .int .i64 cm.o.side, .int .i64 cm.o.price, .int .i64 cm.o.qty, .int .i64 cm.how, .bool cm.reduce] := by rw [hwe]; exact XC.alloc _
        replace HL := (show World.ownsRow w34 _ _ _ _ _ _ by rw [hwe]; exact World.ownsRow.alloc HL _)
        replace HM := (show World.ownsRow w34 _ _ _ _ _ _ by rw [hwe]; exact World.ownsRow.alloc HM _)
        have HB34 : Hid (Below w.heap.size w w34) := by rw [hwe]; exact Lib.hid (HBd36.out.alloc HBd36.out.size _)
        have VD : DkV w w34 wl.heap.size AD ED cD kD dr := by rw [hwe]; exact DkV.new (d := dr) (w0 := w) wl HOD.out
        clear hwe HOD
        obtain rfl := HER.out
        obtain ⟨q0, q1⟩ := bl_c2 VR.blk
        obtain ⟨p0, p1⟩ := bl_c2 VD.blk
        go_wp2_with fail
        refine (same_atJ dr A4 E4 AD ED c4 k4 cD kD w34.heap.size w34.heap.size w34 VR.rd VD.rd (Nat.le_refl _) (Nat.le_refl _) rfl rfl rfl rfl).mono ?_
        rintro e wc37 ⟨rfl, hb⟩
        clear q0 q1 p0 p1
        replace VA := VA.below hb
        replace VB := VB.below hb
        replace VX := VX.below hb
        replace VR := VR.below hb
        replace VN := VN.below hb
        replace VD := VD.below hb
        replace XD := XD.below hb XD.lt
        replace XC := XC.below hb XC.lt
        replace HL := own_below HL hb (Nat.le_refl _)
        replace HM := own_below HM hb (Nat.le_refl _)
        have HBd38 := Lib.hid (HB34.out.trans (hb.mono HB34.out.size))
        clear hb
        go_wp2_with fail
        refine (equal_cms AL AM lr.length cL lr.length cM lr lr wc37.heap.size wc37.heap.size wc37 (Rd.of_own HL) (Rd.of_own HM) (Nat.le_refl _) (Nat.le_refl _) true (decide_eq_true rfl).symm).mono ?_
        rintro e wE ⟨rfl, hb⟩
        have HBE := Lib.hid (HBd38.out.trans (hb.mono HBd38.out.size))
        clear hb
        go_wp2_with fail
        go_ret
        exact ⟨rfl, HBE.out⟩
end Go.Proofs.YtockodmbhnlheaaDoor
