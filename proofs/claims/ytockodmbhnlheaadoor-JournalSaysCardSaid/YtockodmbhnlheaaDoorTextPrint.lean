/-
  text.Print, walked.
-/
import Derived.Test.YtockodmbhnlheaaDoorTextWords
import Derived.Deep.RegionWith
import Derived.Deep.DeepCutAuto
import Derived.Deep.Cut
namespace Go.Proofs.YtockodmbhnlheaaDoor
open Go.RowKit

theorem calls_nameT {P : Program} {f : FuncId} {args : Array Value} {post : Ending → World → Prop} {W : World} (h : ∀ Z, Z = W → Calls P f args Z post) : Calls P f args W post := h W rfl
theorem below_nextT {w0 W W' : World} (hb : Below W.heap.size W W') (h : Below w0.heap.size w0 W) : Below w0.heap.size w0 W' := h.trans (hb.mono h.size)
theorem below_drewT {w0 W : World} (h : Below w0.heap.size w0 W) : Below w0.heap.size w0 W.drew := below_drewN h 1
theorem PW.start {w0 W : World} (hb : Below w0.heap.size w0 W) (he : Env w0) (x : List UInt8) (g : Nat) (hg : g = W.heap.size) :
    PW w0 ((W.alloc (.cells #[.string (bs x)] 9)).alloc (.cells #[.slice (some ⟨g, 0, none⟩) 1 1] 58)) w0.heap.size (g + 1) (.slice (some ⟨g, 0, none⟩) 1 1) [x] := by
  subst hg
  have hs := hb.size
  refine ⟨(hb.alloc hs _).alloc (by simp; omega) _, ?_, by omega, ?_, ?_, he.low, he, by simp; omega⟩
  · have := Blk.new (W.alloc (.cells #[.string (bs x)] 9)) 58 #[.slice (some ⟨W.heap.size, 0, none⟩) 1 1]
    rwa [World.size_alloc] at this
  · exact World.ownsRow.alloc (World.ownsRow_lit (e := 9) (size := 1) W #[.string (bs x)] 1 hs (by decide) rfl) _
  · intro e; injection e with e; simp at e
theorem PW.startB {w0 W : World} (hb : Below w0.heap.size w0 W) (he : Env w0) (x : List UInt8) (g : Nat) (hg : g = W.heap.size) :
    PW w0 ((W.alloc (.cells #[.slice (some ⟨g + 1, 0, none⟩) 1 1] 58)).alloc (.cells #[.string (bs x)] 9)) w0.heap.size g (.slice (some ⟨g + 1, 0, none⟩) 1 1) [x] := by
  subst hg
  have hs := hb.size
  refine ⟨(hb.alloc hs _).alloc (by simp; omega) _, (Blk.new W _ _).alloc _, hs, ?_, ?_, he.low, he, by simp; omega⟩
  · have := World.ownsRow_lit (base := w0.heap.size) (e := 9) (size := 1) (W.alloc (.cells #[.slice (some ⟨W.heap.size + 1, 0, none⟩) 1 1] 58)) #[.string (bs x)] 1 (by simp; omega) (by decide) rfl
    rwa [World.size_alloc] at this
  · intro e; injection e with e; simp at e
theorem PW.startC {w0 W : World} (hb : Below w0.heap.size w0 W) (he : Env w0) (x : List UInt8) (g r : Nat) {u : Value} (hX : Blk W g 58 #[u]) (hg : w0.heap.size ≤ g) (hr : r = W.heap.size) :
    PW w0 ((W.setCell ⟨g, 0, none⟩ (.slice (some ⟨r, 0, none⟩) 1 1)).alloc (.cells #[.string (bs x)] 9)) w0.heap.size g (.slice (some ⟨r, 0, none⟩) 1 1) [x] := by
  subst hr
  have hs := hb.size
  have hl := hX.lt
  refine ⟨(hb.setCell hg _).alloc (by simp; omega) _, (hX.set_ 0 _).alloc _, hg, ?_, ?_, he.low, he, by simp; omega⟩
  · have := World.ownsRow_lit (base := w0.heap.size) (e := 9) (size := 1) (W.setCell ⟨g, 0, none⟩ (.slice (some ⟨W.heap.size, 0, none⟩) 1 1)) #[.string (bs x)] 1 (by simp; omega) (by decide) rfl
    rwa [World.size_setCell] at this
  · intro e; injection e with e; simp at e; omega
theorem wp_nameT {P : Program} {c : Code} {Q : Exit → Act → World → Prop} {a : Act} {W : World} (h : ∀ Z, Z = W → Code.wp P c Q a Z) : Code.wp P c Q a W := h W rfl
theorem own_ltT {w : World} {base e k n : Nat} {v : Value} {xs : List Value} (h : w.ownsRow base e k v n xs) {ga : Nat} (hga : w.heap.size ≤ ga) : v.ownBlock ≠ some ga := by
  intro e
  have := (World.ownsRow.lt h ga e).2
  omega

set_option maxHeartbeats 2000000 in
set_option maxRecDepth 100000 in
theorem textPrint_any (c : Cm) (w : World) (h : Env w) (hf : FitC c) : Calls Tryd.prog 7 #[.agg #[.int .i64 c.kind, .int .i64 c.acc, .int .i64 c.market, .int .i64 c.n, .int .i64 c.o.id, .int .i64 c.o.acc, .int .i64 c.o.side, .int .i64 c.o.price, .int .i64 c.o.qty, .int .i64 c.how, .bool c.reduce]] w fun e w' => e = .returned (.tuple #[.string (bs (printOf c).1), .int .i64 (printOf c).2]) ∧ Below w.heap.size w w' := by
  obtain ⟨kind, acc, market, n, ⟨oid, oacc, oside, oprice, oqty⟩, how, reduce⟩ := c
  have HPR := Lib.hid (show printOf ⟨kind, acc, market, n, ⟨oid, oacc, oside, oprice, oqty⟩, how, reduce⟩ = if textErr ⟨kind, acc, market, n, ⟨oid, oacc, oside, oprice, oqty⟩, how, reduce⟩ ≠ 0 then ([], textErr ⟨kind, acc, market, n, ⟨oid, oacc, oside, oprice, oqty⟩, how, reduce⟩) else (Lib.join (printWords ⟨kind, acc, market, n, ⟨oid, oacc, oside, oprice, oqty⟩, how, reduce⟩) [32], 0) from rfl)
  have HC := Lib.hid (fun w => textCheck_any ⟨kind, acc, market, n, ⟨oid, oacc, oside, oprice, oqty⟩, how, reduce⟩ w)
  have HOK := Lib.hid (fun h => textErr_ok (c := ⟨kind, acc, market, n, ⟨oid, oacc, oside, oprice, oqty⟩, how, reduce⟩) h)
  obtain ⟨te, hte⟩ : ∃ te, te = textErr ⟨kind, acc, market, n, ⟨oid, oacc, oside, oprice, oqty⟩, how, reduce⟩ := ⟨_, rfl⟩
  rw [← hte] at HPR HC HOK
  clear hte
  have HEN := Lib.hid h
  have HF := Lib.hid hf
  clear h hf
  dsimp only
  go_enter Tryd.func7, Tryd.ntmps7
  go_wp2_with fail
  refine calls_nameT ?_
  intro w1 hw1
  have hb1 : Below w.heap.size w w1 := by rw [hw1]; exact (Below.refl _ _).alloc (Nat.le_refl _) _
  have hs1 : w1.heap.size = w.heap.size + 1 := by rw [hw1]; simp
  have X1 : Blk w1 w.heap.size 25 #[.int .i64 kind, .int .i64 acc, .int .i64 market, .int .i64 n, .int .i64 oid, .int .i64 oacc, .int .i64 oside, .int .i64 oprice, .int .i64 oqty, .int .i64 how, .bool reduce] := by rw [hw1]; exact Blk.new w _ _
  clear hw1
  refine (HC.out w1).mono ?_
  rintro e w2 ⟨rfl, hb2⟩
  have hs2 := hb2.size
  replace X1 := X1.below hb2 X1.lt
  replace hb1 := hb1.trans (hb2.mono (by omega))
  clear hb2 HC
  by_cases hz : te = 0
  rotate_left
  · have hz' : (te != 0) = true := by simpa using hz
    have HE := Lib.hid (HPR.out.trans (if_pos hz))
    clear hz HPR
    go_wp2_with fail
    go_ret2
    exact ⟨by rw [HE.out]; rfl, hb1⟩
  have HE := Lib.hid (HPR.out.trans (if_neg (by simpa using hz)))
  obtain ⟨hk, h3, -⟩ := HOK.out hz
  have hen := HEN.out.next hb1
  subst hz
  clear HPR HOK
  obtain ⟨k, rfl⟩ : ∃ k : Nat, kind = k := ⟨kind.toNat, by omega⟩
  have hk7 : 1 ≤ k ∧ k ≤ 7 := by omega
  clear hk
  go_wp2_with fail
  have k0 : w2.cell? ⟨w.heap.size, 0, none⟩ = some (.int .i64 (k : Int)) := X1.cell 0
  go_cut [5] (fun v5 wx => ∃ g v', v5 = .pointer (some ⟨g, 0, none⟩) ∧ Hid (PW w2 wx w2.heap.size g v' [(kindW k)]))
  case first =>
    have HK := Lib.hid (fun W => kinds_any W)
    have x1 := X1.lt
    have q : ∀ w, (Instr.index 56 (.agg #[.string (bs []), .string (bs wDeposit), .string (bs wWithdraw), .string (bs wPlace), .string (bs wCancel), .string (bs wIndex), .string (bs wFund), .string (bs wSweep)]) (.int .i64 (k : Int))).run Tryd.prog w = .ok (.string (bs (kindW k))) w := fun w => run_kinds k (by omega) w
    have KC : Hid (∀ W, Below w2.heap.size w2 W → W.cell? ⟨w.heap.size, 0, none⟩ = some (.int .i64 (k : Int))) := Lib.hid (fun W hW => (X1.below hW X1.lt).cell 0)
    have h22 := below_drewT (Below.refl w2.heap.size w2)
    go_region_with (go_at_call 27; (with_reducible refine (HK.out _).mono ?_); rintro e W' ⟨rfl, hb⟩; have hB : Below w2.heap.size w2 W' := below_nextT hb (by first | exact h22 | exact h22.alloc h22.size _); have kc := KC.out _ hB; have hsB := hB.size; have xB := Nat.lt_of_lt_of_le x1 hsB; (first | (have XB : Blk W' w2.heap.size 58 #[.slice none 0 0] := (Blk.new w2.drew 58 #[.slice none 0 0]).below hb (by simp); have kB : W'.cell? ⟨w2.heap.size, 0, none⟩ = some (.slice none 0 0) := XB.cell 0; have fB : W'.frozen? ⟨w2.heap.size, 0, none⟩ = false := XB.frozen 0; have lB := XB.lt) | skip))
    all_goals
      go_wp2_with fail
      go_meet
      first | exact ⟨_, _, rfl, Lib.hid (PW.start hB hen _ _ rfl)⟩ | exact ⟨_, _, rfl, Lib.hid (PW.startB hB hen _ _ rfl)⟩ | exact ⟨_, _, rfl, Lib.hid (PW.startC hB hen _ _ _ XB (Nat.le_refl _) rfl)⟩
  case rest =>
    obtain ⟨g, v1, rfl, HP⟩ := hcut
    have hkk : k = 1 ∨ k = 2 ∨ k = 4 ∨ k = 5 ∨ k = 6 ∨ k = 7 ∨ k = 3 := by omega
    clear hk7
    have hbs := HP.out.bel.size
    have X2 := Lib.hid X1
    replace X1 := X1.below HP.out.bel X1.lt
    have k0 : wc.cell? ⟨w.heap.size, 0, none⟩ = some (.int .i64 (k : Int)) := X1.cell 0
    have k1 : wc.cell? ⟨w.heap.size, 1, none⟩ = some (.int .i64 acc) := X1.cell 1
    have k2 : wc.cell? ⟨w.heap.size, 2, none⟩ = some (.int .i64 market) := X1.cell 2
    have k3 : wc.cell? ⟨w.heap.size, 3, none⟩ = some (.int .i64 n) := X1.cell 3
    have kg : wc.cell? ⟨g, 0, none⟩ = some v1 := HP.out.cell.cell 0
    rcases hkk with rfl | rfl | rfl | rfl | rfl | rfl | rfl
    · skip
      have HJ := Lib.hid (show (Lib.join [kindW 1, Lib.itoa acc, Lib.itoa n] [32]).length ≤ 140737488355328 by
        have h1 := (plain_itoa HF.out.acc).2
        have h2 := (plain_itoa HF.out.n).2
        have h3 := (plain_kind 1).2
        simp only [join_cons2, Lib.join_one, List.length_append, List.length_cons, List.length_nil] at h1 h2 ⊢
        omega)
      go_wp2_with fail
      refine calls_nameT ?_
      intro Wp hWp
      have hbp : Below wc.heap.size wc Wp := by rw [hWp]; exact (Below.refl _ _).alloc (Nat.le_refl _) _
      have HA := Lib.hid (show Blk Wp wc.heap.size 3 #[.int .i64 acc, .int .i64 n] by rw [hWp]; exact Blk.new wc _ _)
      clear hWp
      have HPp := Lib.hid (HP.out.below hbp)
      refine (put_any w2 Wp w2.heap.size g wc.heap.size v1 [kindW 1] acc n HPp.out HA.out (own_ltT HP.out.row (Nat.le_refl _)) (by have := HP.out.cell.lt; omega) HF.out.acc HF.out.n (by simp)).mono ?_
      rintro e Wf ⟨rfl, v2, hq⟩
      have HQ := Lib.hid hq
      have kf : Wf.cell? ⟨g, 0, none⟩ = some v2 := hq.cell.cell 0
      obtain ⟨A2, c2, rfl⟩ := own_shape hq.row
      clear hq
      go_wp2_with fail
      refine (join_any [kindW 1, Lib.itoa acc, Lib.itoa n] (by simp) _ _ _ Wf.heap.size Wf (Rd.of_own HQ.out.row) (Nat.le_refl _) (by simp) HJ.out).mono ?_
      rintro e Wz ⟨rfl, hbz⟩
      go_wp2_with fail
      go_ret2
      exact ⟨by rw [HE.out]; rfl, hb1.trans ((HQ.out.bel.trans (hbz.mono HQ.out.size)).mono (by omega))⟩
    · skip
      have HJ := Lib.hid (show (Lib.join [kindW 2, Lib.itoa acc, Lib.itoa n] [32]).length ≤ 140737488355328 by
        have h1 := (plain_itoa HF.out.acc).2
        have h2 := (plain_itoa HF.out.n).2
        have h3 := (plain_kind 2).2
        simp only [join_cons2, Lib.join_one, List.length_append, List.length_cons, List.length_nil] at h1 h2 ⊢
        omega)
      go_wp2_with fail
      refine calls_nameT ?_
      intro Wp hWp
      have hbp : Below wc.heap.size wc Wp := by rw [hWp]; exact (Below.refl _ _).alloc (Nat.le_refl _) _
      have HA := Lib.hid (show Blk Wp wc.heap.size 3 #[.int .i64 acc, .int .i64 n] by rw [hWp]; exact Blk.new wc _ _)
      clear hWp
      have HPp := Lib.hid (HP.out.below hbp)
      refine (put_any w2 Wp w2.heap.size g wc.heap.size v1 [kindW 2] acc n HPp.out HA.out (own_ltT HP.out.row (Nat.le_refl _)) (by have := HP.out.cell.lt; omega) HF.out.acc HF.out.n (by simp)).mono ?_
      rintro e Wf ⟨rfl, v2, hq⟩
      have HQ := Lib.hid hq
      have kf : Wf.cell? ⟨g, 0, none⟩ = some v2 := hq.cell.cell 0
      obtain ⟨A2, c2, rfl⟩ := own_shape hq.row
      clear hq
      go_wp2_with fail
      refine (join_any [kindW 2, Lib.itoa acc, Lib.itoa n] (by simp) _ _ _ Wf.heap.size Wf (Rd.of_own HQ.out.row) (Nat.le_refl _) (by simp) HJ.out).mono ?_
      rintro e Wz ⟨rfl, hbz⟩
      go_wp2_with fail
      go_ret2
      exact ⟨by rw [HE.out]; rfl, hb1.trans ((HQ.out.bel.trans (hbz.mono HQ.out.size)).mono (by omega))⟩
    · skip
      have HJ := Lib.hid (show (Lib.join [kindW 4, Lib.itoa acc, Lib.itoa n] [32]).length ≤ 140737488355328 by
        have h1 := (plain_itoa HF.out.acc).2
        have h2 := (plain_itoa HF.out.n).2
        have h3 := (plain_kind 4).2
        simp only [join_cons2, Lib.join_one, List.length_append, List.length_cons, List.length_nil] at h1 h2 ⊢
        omega)
      go_wp2_with fail
      refine calls_nameT ?_
      intro Wp hWp
      have hbp : Below wc.heap.size wc Wp := by rw [hWp]; exact (Below.refl _ _).alloc (Nat.le_refl _) _
      have HA := Lib.hid (show Blk Wp wc.heap.size 3 #[.int .i64 acc, .int .i64 n] by rw [hWp]; exact Blk.new wc _ _)
      clear hWp
      have HPp := Lib.hid (HP.out.below hbp)
      refine (put_any w2 Wp w2.heap.size g wc.heap.size v1 [kindW 4] acc n HPp.out HA.out (own_ltT HP.out.row (Nat.le_refl _)) (by have := HP.out.cell.lt; omega) HF.out.acc HF.out.n (by simp)).mono ?_
      rintro e Wf ⟨rfl, v2, hq⟩
      have HQ := Lib.hid hq
      have kf : Wf.cell? ⟨g, 0, none⟩ = some v2 := hq.cell.cell 0
      obtain ⟨A2, c2, rfl⟩ := own_shape hq.row
      clear hq
      go_wp2_with fail
      refine (join_any [kindW 4, Lib.itoa acc, Lib.itoa n] (by simp) _ _ _ Wf.heap.size Wf (Rd.of_own HQ.out.row) (Nat.le_refl _) (by simp) HJ.out).mono ?_
      rintro e Wz ⟨rfl, hbz⟩
      go_wp2_with fail
      go_ret2
      exact ⟨by rw [HE.out]; rfl, hb1.trans ((HQ.out.bel.trans (hbz.mono HQ.out.size)).mono (by omega))⟩
    · skip
      have HJ := Lib.hid (show (Lib.join [kindW 5, Lib.itoa market, Lib.itoa n] [32]).length ≤ 140737488355328 by
        have h1 := (plain_itoa HF.out.market).2
        have h2 := (plain_itoa HF.out.n).2
        have h3 := (plain_kind 5).2
        simp only [join_cons2, Lib.join_one, List.length_append, List.length_cons, List.length_nil] at h1 h2 ⊢
        omega)
      go_wp2_with fail
      refine calls_nameT ?_
      intro Wp hWp
      have hbp : Below wc.heap.size wc Wp := by rw [hWp]; exact (Below.refl _ _).alloc (Nat.le_refl _) _
      have HA := Lib.hid (show Blk Wp wc.heap.size 3 #[.int .i64 market, .int .i64 n] by rw [hWp]; exact Blk.new wc _ _)
      clear hWp
      have HPp := Lib.hid (HP.out.below hbp)
      refine (put_any w2 Wp w2.heap.size g wc.heap.size v1 [kindW 5] market n HPp.out HA.out (own_ltT HP.out.row (Nat.le_refl _)) (by have := HP.out.cell.lt; omega) HF.out.market HF.out.n (by simp)).mono ?_
      rintro e Wf ⟨rfl, v2, hq⟩
      have HQ := Lib.hid hq
      have kf : Wf.cell? ⟨g, 0, none⟩ = some v2 := hq.cell.cell 0
      obtain ⟨A2, c2, rfl⟩ := own_shape hq.row
      clear hq
      go_wp2_with fail
      refine (join_any [kindW 5, Lib.itoa market, Lib.itoa n] (by simp) _ _ _ Wf.heap.size Wf (Rd.of_own HQ.out.row) (Nat.le_refl _) (by simp) HJ.out).mono ?_
      rintro e Wz ⟨rfl, hbz⟩
      go_wp2_with fail
      go_ret2
      exact ⟨by rw [HE.out]; rfl, hb1.trans ((HQ.out.bel.trans (hbz.mono HQ.out.size)).mono (by omega))⟩
    · skip
      have HJ := Lib.hid (show (Lib.join [kindW 6, Lib.itoa market, Lib.itoa n] [32]).length ≤ 140737488355328 by
        have h1 := (plain_itoa HF.out.market).2
        have h2 := (plain_itoa HF.out.n).2
        have h3 := (plain_kind 6).2
        simp only [join_cons2, Lib.join_one, List.length_append, List.length_cons, List.length_nil] at h1 h2 ⊢
        omega)
      go_wp2_with fail
      refine calls_nameT ?_
      intro Wp hWp
      have hbp : Below wc.heap.size wc Wp := by rw [hWp]; exact (Below.refl _ _).alloc (Nat.le_refl _) _
      have HA := Lib.hid (show Blk Wp wc.heap.size 3 #[.int .i64 market, .int .i64 n] by rw [hWp]; exact Blk.new wc _ _)
      clear hWp
      have HPp := Lib.hid (HP.out.below hbp)
      refine (put_any w2 Wp w2.heap.size g wc.heap.size v1 [kindW 6] market n HPp.out HA.out (own_ltT HP.out.row (Nat.le_refl _)) (by have := HP.out.cell.lt; omega) HF.out.market HF.out.n (by simp)).mono ?_
      rintro e Wf ⟨rfl, v2, hq⟩
      have HQ := Lib.hid hq
      have kf : Wf.cell? ⟨g, 0, none⟩ = some v2 := hq.cell.cell 0
      obtain ⟨A2, c2, rfl⟩ := own_shape hq.row
      clear hq
      go_wp2_with fail
      refine (join_any [kindW 6, Lib.itoa market, Lib.itoa n] (by simp) _ _ _ Wf.heap.size Wf (Rd.of_own HQ.out.row) (Nat.le_refl _) (by simp) HJ.out).mono ?_
      rintro e Wz ⟨rfl, hbz⟩
      go_wp2_with fail
      go_ret2
      exact ⟨by rw [HE.out]; rfl, hb1.trans ((HQ.out.bel.trans (hbz.mono HQ.out.size)).mono (by omega))⟩
    · obtain ⟨Wf, rfl⟩ : ∃ x, x = wc := ⟨wc, rfl⟩
      have HQ := Lib.hid HP.out
      obtain ⟨A2, c2, rfl⟩ := own_shape HP.out.row
      go_wp2_with fail
      refine (join_any [kindW 7] (by simp) _ _ _ Wf.heap.size Wf (Rd.of_own HQ.out.row) (Nat.le_refl _) (by simp) (by decide)).mono ?_
      rintro e Wz ⟨rfl, hbz⟩
      go_wp2_with fail
      go_ret2
      exact ⟨by rw [HE.out]; rfl, hb1.trans ((HQ.out.bel.trans (hbz.mono HQ.out.size)).mono (by omega))⟩
    · obtain ⟨⟨q1, q2⟩, q3⟩ := h3 rfl
      obtain ⟨hn, rfl⟩ : ∃ hn : Nat, how = hn := ⟨how.toNat, by omega⟩
      go_wp2_with fail
      refine calls_nameT ?_
      intro Wp hWp
      have hbp : Below wc.heap.size wc Wp := by rw [hWp]; exact (Below.refl _ _).alloc (Nat.le_refl _) _
      have HA := Lib.hid (show Blk Wp wc.heap.size 3 #[.int .i64 acc, .int .i64 market] by rw [hWp]; exact Blk.new wc _ _)
      clear hWp
      have HPp := Lib.hid (HP.out.below hbp)
      refine (put_any w2 Wp w2.heap.size g wc.heap.size _ [kindW 3] acc market HPp.out HA.out (own_ltT HP.out.row (Nat.le_refl _)) (by have := HP.out.cell.lt; omega) HF.out.acc HF.out.market (by simp)).mono ?_
      rintro e Wf ⟨rfl, v2, hq⟩
      have HQ1 : Hid (PW w2 Wf w2.heap.size g v2 [kindW 3, Lib.itoa acc, Lib.itoa market]) := Lib.hid hq
      clear hq k0 k1 k2 k3 kg X1 HPp HA hbp HP
      have hbs1 := HQ1.out.bel.size
      have X11 := X2.out.below HQ1.out.bel X2.out.lt
      have k6 : Wf.cell? ⟨w.heap.size, 6, none⟩ = some (.int .i64 oside) := X11.cell 6
      have k7 : Wf.cell? ⟨w.heap.size, 7, none⟩ = some (.int .i64 oprice) := X11.cell 7
      have k8 : Wf.cell? ⟨w.heap.size, 8, none⟩ = some (.int .i64 oqty) := X11.cell 8
      have k9 : Wf.cell? ⟨w.heap.size, 9, none⟩ = some (.int .i64 (hn : Int)) := X11.cell 9
      have k10 : Wf.cell? ⟨w.heap.size, 10, none⟩ = some (.bool reduce) := X11.cell 10
      have kg : Wf.cell? ⟨g, 0, none⟩ = some v2 := HQ1.out.cell.cell 0
      have gl1 := HQ1.out.cell.lt
      have xl1 := X11.lt
      go_upto_if 54 with (fail)
      go_cut [7] (fun v wx => v = .string (bs (sideW oside)) ∧ Wf = wx)
      case first =>
        rcases q3 with rfl | rfl
        · go_wp2_with fail
          go_meet
          exact ⟨rfl, rfl⟩
        · go_wp2_with fail
          go_meet
          exact ⟨rfl, rfl⟩
      case rest =>
      obtain ⟨rfl, rfl⟩ := hcut
      have hrow1 : Wf.ownsRow w2.heap.size 9 1 v2 3 (strs [kindW 3, Lib.itoa acc, Lib.itoa market]) := HQ1.out.row
      go_upto_region 20 with (at_builtin; refine wpList_app rfl _ _ _ rfl w2.heap.size 9 1 16 elem_st v2 3 (strs [kindW 3, Lib.itoa acc, Lib.itoa market]) rfl (World.ownsRow.alloc hrow1 _) (Wf.heap.size + 1) (some ⟨Wf.heap.size, 0, none⟩) 1 1 (strs [(sideW oside)]) rfl (rd_newT _ _ _ 1 rfl rfl _ rfl) (strs_one _) (by decide) (by decide) (by have := HQ1.out.size; simp; omega) ?_; intro v4 W4 hown4 hbel4 hgrow hat; obtain ⟨A4, c4, rfl⟩ := own_shape hown4; have kg4 : W4.cell? ⟨g, 0, none⟩ = some v2 := (blk_grown (HQ1.out.cell.alloc _) hgrow HQ1.out.ap).cell 0; have fg4 := (blk_grown (HQ1.out.cell.alloc _) hgrow HQ1.out.ap).frozen 0)
      refine wp_nameT ?_
      intro W5 hW5
      have HQ2 : Hid (PW w2 W5 w2.heap.size g (.slice A4 (3 + 1) c4) ([kindW 3, Lib.itoa acc, Lib.itoa market] ++ [(sideW oside)])) := by rw [hW5]; exact Lib.hid ((HQ1.out.below ((Below.refl _ _).alloc (Nat.le_refl _) _)).add hown4 hbel4 hgrow hat)
      clear hW5 hown4 hbel4 hgrow hat kg4 fg4
      clear k6 k7 k8 k9 k10 kg
      have hbs2 := HQ2.out.bel.size
      have X12 := X2.out.below HQ2.out.bel X2.out.lt
      have k6 : W5.cell? ⟨w.heap.size, 6, none⟩ = some (.int .i64 oside) := X12.cell 6
      have k7 : W5.cell? ⟨w.heap.size, 7, none⟩ = some (.int .i64 oprice) := X12.cell 7
      have k8 : W5.cell? ⟨w.heap.size, 8, none⟩ = some (.int .i64 oqty) := X12.cell 8
      have k9 : W5.cell? ⟨w.heap.size, 9, none⟩ = some (.int .i64 (hn : Int)) := X12.cell 9
      have k10 : W5.cell? ⟨w.heap.size, 10, none⟩ = some (.bool reduce) := X12.cell 10
      have kg : W5.cell? ⟨g, 0, none⟩ = some (.slice A4 4 c4) := HQ2.out.cell.cell 0
      have gl2 := HQ2.out.cell.lt
      have xl2 := X12.lt
      go_wp2_with fail
      refine calls_nameT ?_
      intro Wp hWp
      have hbp : Below W5.heap.size W5 Wp := by rw [hWp]; exact (Below.refl _ _).alloc (Nat.le_refl _) _
      have HA := Lib.hid (show Blk Wp W5.heap.size 3 #[.int .i64 oqty, .int .i64 oprice] by rw [hWp]; exact Blk.new W5 _ _)
      clear hWp
      have HPp := Lib.hid (HQ2.out.below hbp)
      refine (put_any w2 Wp w2.heap.size g W5.heap.size _ [kindW 3, Lib.itoa acc, Lib.itoa market, sideW oside] oqty oprice HPp.out HA.out (own_ltT HQ2.out.row (Nat.le_refl _)) (by have := HQ2.out.cell.lt; omega) HF.out.qty HF.out.price (by simp)).mono ?_
      rintro e W6 ⟨rfl, v6, hq⟩
      have HQ3 : Hid (PW w2 W6 w2.heap.size g v6 [kindW 3, Lib.itoa acc, Lib.itoa market, sideW oside, Lib.itoa oqty, Lib.itoa oprice]) := Lib.hid hq
      clear hq k6 k7 k8 k9 k10 kg HPp HA hbp
      have hbs3 := HQ3.out.bel.size
      have X13 := X2.out.below HQ3.out.bel X2.out.lt
      have k6 : W6.cell? ⟨w.heap.size, 6, none⟩ = some (.int .i64 oside) := X13.cell 6
      have k7 : W6.cell? ⟨w.heap.size, 7, none⟩ = some (.int .i64 oprice) := X13.cell 7
      have k8 : W6.cell? ⟨w.heap.size, 8, none⟩ = some (.int .i64 oqty) := X13.cell 8
      have k9 : W6.cell? ⟨w.heap.size, 9, none⟩ = some (.int .i64 (hn : Int)) := X13.cell 9
      have k10 : W6.cell? ⟨w.heap.size, 10, none⟩ = some (.bool reduce) := X13.cell 10
      have kg : W6.cell? ⟨g, 0, none⟩ = some v6 := HQ3.out.cell.cell 0
      have gl3 := HQ3.out.cell.lt
      have xl3 := X13.lt
      go_wp2_with fail
      go_cut [4] (fun _ wx => ∃ v7, Hid (PW w2 wx w2.heap.size g v7 [kindW 3, Lib.itoa acc, Lib.itoa market, sideW oside, Lib.itoa oqty, Lib.itoa oprice, howW hn]))
      case first =>
        have HH := Lib.hid (hows_any W6.drew)
        have q : ∀ w, (Instr.index 62 (.agg #[.string (bs []), .string (bs wLimit), .string (bs wNow), .string (bs wWhole), .string (bs wPost)]) (.int .i64 (hn : Int))).run Tryd.prog w = .ok (.string (bs (howW hn))) w := fun w => run_hows hn (by omega) w
        have HP1 := Lib.hid (HQ3.out.below (w1 := W6.drew) (below_drewN (Below.refl _ _) 1))
        have X3 : Hid (Blk W6.drew w.heap.size 25 #[.int .i64 3, .int .i64 acc, .int .i64 market, .int .i64 n, .int .i64 oid, .int .i64 oacc, .int .i64 oside, .int .i64 oprice, .int .i64 oqty, .int .i64 (hn : Int), .bool reduce]) := Lib.hid X13
        go_region_law (first
          | (refine step_appT rfl _ _ 58 rfl w2.heap.size 9 1 16 elem_st v6 6 (strs [kindW 3, Lib.itoa acc, Lib.itoa market, sideW oside, Lib.itoa oqty, Lib.itoa oprice]) (by simp [Act.eval]) (World.ownsRow.alloc HPW.out.row _) (W'.heap.size + 1) (some ⟨W'.heap.size, 0, none⟩) 1 1 (strs [howW hn]) (by simp [Act.eval]) (rd_newT _ _ _ 1 rfl rfl _ rfl) (strs_one _) (by decide) (by decide) hbs ?_; intro v4 W4 hown4 hbel4 hgrow hat; obtain ⟨A4, c4, rfl⟩ := own_shape hown4; have kg4 : W4.cell? ⟨g, 0, none⟩ = some v6 := (blk_grown (HPW.out.cell.alloc _) hgrow HPW.out.ap).cell 0; have fg4 := (blk_grown (HPW.out.cell.alloc _) hgrow HPW.out.ap).frozen 0)
          | (go_simp; go_at_call 30; refine HH.out.mono ?_; rintro e W' ⟨rfl, hbW⟩; have HPW := Lib.hid (HP1.out.below hbW); have hbs : w2.heap.size ≤ (W'.alloc (.cells #[.string (bs (howW hn))] 9)).heap.size := Nat.le_trans HPW.out.size (by simp); have kgW : W'.cell? ⟨g, 0, none⟩ = some v6 := HPW.out.cell.cell 0; have hgW := HPW.out.cell.lt; have khW : W'.cell? ⟨w.heap.size, 9, none⟩ = some (.int .i64 (hn : Int)) := (X3.out.below hbW X3.out.lt).cell 9))
        all_goals
          go_wp2_with fail
          go_meet
          exact ⟨_, Lib.hid ((HPW.out.below ((Below.refl _ _).alloc (Nat.le_refl _) _)).add hown4 hbel4 hgrow hat)⟩
      case rest =>
      obtain ⟨v7, HQ4⟩ := hcut
      obtain ⟨W7, rfl⟩ : ∃ x, x = wc := ⟨wc, rfl⟩
      clear k6 k7 k8 k9 k10 kg
      have hbs4 := HQ4.out.bel.size
      have X14 := X2.out.below HQ4.out.bel X2.out.lt
      have k6 : W7.cell? ⟨w.heap.size, 6, none⟩ = some (.int .i64 oside) := X14.cell 6
      have k7 : W7.cell? ⟨w.heap.size, 7, none⟩ = some (.int .i64 oprice) := X14.cell 7
      have k8 : W7.cell? ⟨w.heap.size, 8, none⟩ = some (.int .i64 oqty) := X14.cell 8
      have k9 : W7.cell? ⟨w.heap.size, 9, none⟩ = some (.int .i64 (hn : Int)) := X14.cell 9
      have k10 : W7.cell? ⟨w.heap.size, 10, none⟩ = some (.bool reduce) := X14.cell 10
      have kg : W7.cell? ⟨g, 0, none⟩ = some v7 := HQ4.out.cell.cell 0
      have gl4 := HQ4.out.cell.lt
      have xl4 := X14.lt
      have HJ := Lib.hid (show (Lib.join ([kindW 3, Lib.itoa acc, Lib.itoa market, sideW oside, Lib.itoa oqty, Lib.itoa oprice, howW hn] ++ if reduce then [wReduce] else []) [32]).length ≤ 140737488355328 by
        have hw := plain_words HF.out
        have h1 := join_len (c := 32) (k := 21) (fun w hw' => (hw w hw').2)
        have h2 := words_len ⟨3, acc, market, n, ⟨oid, oacc, oside, oprice, oqty⟩, hn, reduce⟩
        have h3 := Nat.mul_le_mul_right 22 h2
        exact Nat.le_trans h1 (Nat.le_trans h3 (by decide)))
      cases reduce with
      | false =>
        obtain ⟨Wf, rfl⟩ : ∃ x, x = W7 := ⟨W7, rfl⟩
        have HQ := Lib.hid HQ4.out
        obtain ⟨A2, c2, rfl⟩ := own_shape HQ4.out.row
        go_wp2_with fail
        refine (join_any [kindW 3, Lib.itoa acc, Lib.itoa market, sideW oside, Lib.itoa oqty, Lib.itoa oprice, howW hn] (by simp) _ _ _ Wf.heap.size Wf (Rd.of_own HQ.out.row) (Nat.le_refl _) (by simp) HJ.out).mono ?_
        rintro e Wz ⟨rfl, hbz⟩
        go_wp2_with fail
        go_ret2
        exact ⟨by rw [HE.out]; rfl, hb1.trans ((HQ.out.bel.trans (hbz.mono HQ.out.size)).mono (by omega))⟩
      | true =>
        have hrow4 : W7.ownsRow w2.heap.size 9 1 v7 7 (strs [kindW 3, Lib.itoa acc, Lib.itoa market, sideW oside, Lib.itoa oqty, Lib.itoa oprice, howW hn]) := HQ4.out.row
        go_upto_region 24 with (at_builtin; refine wpList_app rfl _ _ _ rfl w2.heap.size 9 1 16 elem_st v7 7 (strs [kindW 3, Lib.itoa acc, Lib.itoa market, sideW oside, Lib.itoa oqty, Lib.itoa oprice, howW hn]) rfl (World.ownsRow.alloc hrow4 _) (W7.heap.size + 1) (some ⟨W7.heap.size, 0, none⟩) 1 1 (strs [wReduce]) rfl (rd_newT _ _ _ 1 rfl rfl _ rfl) (strs_one _) (by decide) (by decide) (by have := HQ4.out.size; simp; omega) ?_; intro v4 W4 hown4 hbel4 hgrow hat; obtain ⟨A4, c4, rfl⟩ := own_shape hown4; have kg4 : W4.cell? ⟨g, 0, none⟩ = some v7 := (blk_grown (HQ4.out.cell.alloc _) hgrow HQ4.out.ap).cell 0; have fg4 := (blk_grown (HQ4.out.cell.alloc _) hgrow HQ4.out.ap).frozen 0)
        refine wp_nameT ?_
        intro Wf hW5
        have HQ5 : Hid (PW w2 Wf w2.heap.size g (.slice A4 (7 + 1) c4) ([kindW 3, Lib.itoa acc, Lib.itoa market, sideW oside, Lib.itoa oqty, Lib.itoa oprice, howW hn] ++ [wReduce])) := by rw [hW5]; exact Lib.hid ((HQ4.out.below ((Below.refl _ _).alloc (Nat.le_refl _) _)).add hown4 hbel4 hgrow hat)
        clear hW5 hown4 hbel4 hgrow hat kg4 fg4
        have HQ := Lib.hid HQ5.out
        have kf : Wf.cell? ⟨g, 0, none⟩ = some (.slice A4 8 c4) := HQ5.out.cell.cell 0
        go_wp2_with fail
        refine (join_any [kindW 3, Lib.itoa acc, Lib.itoa market, sideW oside, Lib.itoa oqty, Lib.itoa oprice, howW hn, wReduce] (by simp) _ _ _ Wf.heap.size Wf (Rd.of_own HQ.out.row) (Nat.le_refl _) (by simp) HJ.out).mono ?_
        rintro e Wz ⟨rfl, hbz⟩
        go_wp2_with fail
        go_ret2
        exact ⟨by rw [HE.out]; rfl, hb1.trans ((HQ.out.bel.trans (hbz.mono HQ.out.size)).mono (by omega))⟩
end Go.Proofs.YtockodmbhnlheaaDoor
