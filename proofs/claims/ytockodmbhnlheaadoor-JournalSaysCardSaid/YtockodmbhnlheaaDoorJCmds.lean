/-
  CHAPTER 9's LINES: strings.Cut at a line feed; slices of commands as flat rows; journal.commands, walked.
-/
import Derived.Test.YtockodmbhnlheaaDoorTextParse
import Derived.Test.YtockodmbhnlheaaDoorBySlc
import Derived.Test.YtockodmbhnlheaaDoorJPure
namespace Go.Proofs.YtockodmbhnlheaaDoor
open Go.RowKit

theorem index_spl (c : UInt8) : ∀ s : List UInt8, (Lib.index s [c] = -1 ∧ c ∉ s) ∨ ∃ p r, s = p ++ c :: r ∧ c ∉ p ∧ Lib.index s [c] = p.length
  | [] => .inl ⟨by rw [Lib.index]; simp, by simp⟩
  | b :: l => by
    by_cases h : b = c
    · subst h; exact .inr ⟨[], l, rfl, by simp, by rw [index_one_eq]; rfl⟩
    · have e := index_one_ne l h
      have hn : ∀ p, c ∉ p → c ∉ b :: p := fun p hp => by simp only [List.mem_cons, not_or]; exact ⟨fun e => h e.symm, hp⟩
      rcases index_spl c l with ⟨h1, h2⟩ | ⟨p, r, h1, h2, h3⟩
      · exact .inl ⟨by rw [e, h1]; rfl, hn _ h2⟩
      · refine .inr ⟨b :: p, r, by rw [h1]; rfl, hn _ h2, ?_⟩
        have : ¬ (Lib.index l [c] == -1) = true := by rw [h3, beq_iff_eq]; omega
        rw [e, if_neg this, h3, List.length_cons]; omega
theorem cut_one (c : UInt8) (s : List UInt8) : (Lib.cut s [c] = (s, [], false) ∧ spl c s = [s]) ∨ ∃ p r, Lib.cut s [c] = (p, r, true) ∧ s = p ++ c :: r ∧ spl c s = p :: spl c r := by
  rcases index_spl c s with ⟨h1, h2⟩ | ⟨p, r, h1, h2, h3⟩
  · exact .inl ⟨by unfold Lib.cut; rw [h1, if_neg (by omega)], spl_one c s h2⟩
  · refine .inr ⟨p, r, ?_, h1, by rw [h1]; exact spl_app c r p h2⟩
    unfold Lib.cut
    rw [h3, if_pos (by omega), Int.toNat_natCast, h1]
    simp
theorem cut_any (l : List UInt8) (hl : l.length ≤ 1000000) (w : World) (h : Env w) : Calls Tryd.prog 39 #[.string (bs l), .string (bs [10])] w fun e w' =>
    ((e = .returned (.tuple #[.string (bs l), .string (bs []), .bool false]) ∧ spl 10 l = [l]) ∨ ∃ p r, e = .returned (.tuple #[.string (bs p), .string (bs r), .bool true]) ∧ l = p ++ 10 :: r ∧ spl 10 l = p :: spl 10 r) ∧ ∃ q, w' = w.drewN q := by
  obtain ⟨m, hm⟩ := h.max
  refine (Any.strings_Cut Tryd.lays145 (bs l) (bs [10]) m w (by rw [bs_size]; omega) hm).mono ?_
  rintro e w' ⟨he, hw⟩
  refine ⟨?_, hw⟩
  rw [bs_data, bs_data] at he
  rcases cut_one 10 l with ⟨h1, h2⟩ | ⟨p, r, h1, h2, h3⟩
  · rw [h1] at he; exact .inl ⟨he, h2⟩
  · rw [h1] at he; exact .inr ⟨p, r, he, h2, h3⟩

/-- commands as a flat row. -/
def cmCells : List Cm → List Value
  | [] => []
  | c :: l => .int .i64 c.kind :: .int .i64 c.acc :: .int .i64 c.market :: .int .i64 c.n :: .int .i64 c.o.id :: .int .i64 c.o.acc :: .int .i64 c.o.side :: .int .i64 c.o.price :: .int .i64 c.o.qty :: .int .i64 c.how :: .bool c.reduce :: cmCells l
theorem cmCells_len : ∀ L, (cmCells L).length = L.length * 11
  | [] => rfl
  | o :: l => by simp only [cmCells, List.length_cons, cmCells_len l]; omega
theorem cmCells_app (M : List Cm) : ∀ L, cmCells (L ++ M) = cmCells L ++ cmCells M
  | [] => rfl
  | o :: l => by simp only [List.cons_append, cmCells, cmCells_app M l]
theorem cmCells_one : ∀ (L : List Cm), ∀ u ∈ cmCells L, u.oneCell' = true
  | [], u, h => by cases h
  | o :: l, u, h => by
    simp only [cmCells, List.mem_cons] at h
    rcases h with rfl | rfl | rfl | rfl | rfl | rfl | rfl | rfl | rfl | rfl | rfl | h
    all_goals first | rfl | exact cmCells_one l u h
theorem elem_cm : Elem Tryd.prog 42 25 11 88 := elem_mk Tryd.underlying42 (by kernel_rfl) (by decide)

theorem cmdsP_step (p r : List UInt8) (l : List Cm) : cmdsP (p :: spl 10 r) l = if (parseOf p).2 ≠ 0 then ([], (parseOf p).2) else if 60 < l.length + 1 then ([], 2) else cmdsP (spl 10 r) (l ++ [(parseOf p).1]) := by
  obtain ⟨q, r', e⟩ : ∃ q r', spl 10 r = q :: r' := by
    cases h : spl 10 r with
    | nil => exact absurd h (spl_ne 10 r)
    | cons a b => exact ⟨a, b, rfl⟩
  rw [e]; exact cmdsP_cons p q r' l

set_option maxHeartbeats 2000000 in
set_option maxRecDepth 100000 in
theorem cmds_any (s : List UInt8) (hs : s.length ≤ 1000000) (w : World) (he : Env w) :
    Calls Tryd.prog 38 #[.string (bs s)] w fun e w' => ∃ v L k, e = .returned (.tuple #[v, .int .i64 k]) ∧ cmdsOf s = (L, k) ∧ w'.ownsRow w.heap.size 25 11 v L.length (cmCells L) ∧ Below w.heap.size w w' := by
  have HE := Lib.hid he
  clear he
  go_enter Tryd.func38, Tryd.ntmps38
  go_wp2_with fail
  go_loopw [0, 4] (fun v0 v4 wr => ∃ (t : List UInt8) (l : List Cm), v0 = .string (bs t) ∧ t.length ≤ 1000000 ∧ l.length ≤ 60 ∧ Hid (cmdsP (spl 10 t) l = cmdsOf s) ∧ Hid (wr.ownsRow w.heap.size 25 11 v4 l.length (cmCells l)) ∧ Below w.heap.size w wr)
    (fun v0 _ _ => match v0 with | .string b => b.size | _ => 0)
  case atStart => exact ⟨s, [], rfl, hs, by simp, Lib.hid rfl, Lib.hid (World.ownsRow_nil _ _ _ _), Below.refl _ _⟩
  case round =>
    obtain ⟨t, l, rfl, ht, hl, HC, HO, hbr⟩ := hrel
    have hsr := hbr.size
    have HB := Lib.hid hbr
    clear hbr
    by_cases h0 : t = []
    · have d0 : ((bs t).toList == []) = true := by rw [bs_cmpL]; exact decide_eq_true h0
      have d1 : ((bs t).toList != []) = false := by rw [bne, d0]; rfl
      have HR := Lib.hid (show cmdsOf s = (l, 0) by rw [← HC.out, h0]; rfl)
      clear h0
      go_wp2_with fail
      go_ret2
      exact ⟨_, l, 0, rfl, HR.out, HO.out, HB.out⟩
    · have d0 : ((bs t).toList == []) = false := by rw [bs_cmpL]; exact decide_eq_false h0
      have d1 : ((bs t).toList != []) = true := by rw [bne, d0]; rfl
      have HT0 := Lib.hid h0
      clear h0
      go_wp2_with fail
      refine (cut_any t ht wr (HE.out.next HB.out)).mono ?_
      rintro e w1 ⟨hcut, q, rfl⟩
      rcases hcut with ⟨rfl, h1⟩ | ⟨p, r, rfl, h1, h2⟩
      · have HR := Lib.hid (show cmdsOf s = ([], 13) by
          rw [← HC.out, h1]
          unfold cmdsP
          rw [if_neg HT0.out])
        clear h1 d0 d1
        go_wp2_with fail
        go_ret2
        exact ⟨_, [], 13, rfl, HR.out, World.ownsRow_nil _ _ _ _, below_drewN HB.out q⟩
      · have HS := Lib.hid (show (if (parseOf p).2 ≠ 0 then ([], (parseOf p).2) else if 60 < l.length + 1 then ([], 2) else cmdsP (spl 10 r) (l ++ [(parseOf p).1])) = cmdsOf s by rw [← HC.out, h2, cmdsP_step])
        have hr : r.length + 1 ≤ t.length := by rw [h1, List.length_append, List.length_cons]; omega
        clear h1 h2 HC d0 d1 HT0
        have HB1 := Lib.hid (below_drewN HB.out q)
        go_wp2_with fail
        refine (parse_any p (wr.drewN q) (HE.out.next HB1.out)).mono ?_
        rintro e w2 ⟨x, k, rfl, hp, hb2⟩
        have HP := Lib.hid hp
        have HO2 := Lib.hid (own_below (own_drewN HO.out q) hb2 (Nat.le_refl _))
        have hs2 := hb2.size
        have HB2 := Lib.hid (HB1.out.trans (hb2.mono HB1.out.size))
        clear hb2 hp HO HB HB1
        unfold cmV
        go_upto_region 7 with (fail)
        refine wp_nameT ?_
        intro w3 hw3
        have hs3 : w.heap.size ≤ w2.heap.size := HB2.out.size
        have X3 : Blk w3 w2.heap.size 25 #[.int .i64 x.kind, .int .i64 x.acc, .int .i64 x.market, .int .i64 x.n, .int .i64 x.o.id, .int .i64 x.o.acc, .int .i64 x.o.side, .int .i64 x.o.price, .int .i64 x.o.qty, .int .i64 x.how, .bool x.reduce] := by rw [hw3]; exact Blk.new w2 _ _
        have HB3 : Hid (Below w.heap.size w w3) := by rw [hw3]; exact Lib.hid (HB2.out.alloc hs3 _)
        have HO3 : Hid (w3.ownsRow w.heap.size 25 11 u4 l.length (cmCells l)) := by rw [hw3]; exact Lib.hid (World.ownsRow.alloc HO2.out _)
        clear hw3 HO2 HB2
        have hs3' := HB3.out.size
        obtain ⟨⟨v0, v1, v2, v3, v4, v5, v6, v7, v8, v9, v10⟩, -⟩ := bl_c11 X3
        by_cases h5 : k = 0
        rotate_left
        · have HR := Lib.hid (show cmdsOf s = ([], k) by rw [← HS.out, HP.out, if_pos h5])
          have d5 : (k != 0) = true := by simpa using h5
          clear h5
          go_wp2_with fail
          go_ret2
          exact ⟨_, [], k, rfl, HR.out, World.ownsRow_nil _ _ _ _, HB3.out⟩
        have HS2 := Lib.hid (show (if 60 < l.length + 1 then ([], 2) else cmdsP (spl 10 r) (l ++ [x])) = cmdsOf s by rw [← HS.out, HP.out, h5]; rfl)
        subst h5
        by_cases h6 : 60 < l.length + 1
        · have HR := Lib.hid (show cmdsOf s = ([], 2) by rw [← HS2.out, if_pos h6])
          go_wp2_with (at_builtin; refine wpList_app rfl _ _ _ rfl w.heap.size 25 11 88 elem_cm u4 l.length (cmCells l) rfl (World.ownsRow.alloc HO3.out _) (w3.heap.size + 1) (some ⟨w3.heap.size, 0, none⟩) 1 1 (cmCells [x]) rfl (rd_newT _ _ _ 11 rfl rfl _ rfl) (cmCells_one [x]) (by unfold maxLen; omega) (by omega) (by simp; omega) ?_; intro v5 w5 hown5 hbel5 hgr5 hat5; obtain ⟨A5, c5, rfl⟩ := own_shape hown5; have HO5 := Lib.hid hown5; clear hown5 hgr5 hat5)
          have hb5 := HB3.out.trans (((Below.refl w3.heap.size w3).alloc (Nat.le_refl _) (.cells #[.int .i64 x.kind, .int .i64 x.acc, .int .i64 x.market, .int .i64 x.n, .int .i64 x.o.id, .int .i64 x.o.acc, .int .i64 x.o.side, .int .i64 x.o.price, .int .i64 x.o.qty, .int .i64 x.how, .bool x.reduce] 25)).mono hs3' |>.trans hbel5)
          go_ret2
          exact ⟨_, [], 2, rfl, HR.out, World.ownsRow_nil _ _ _ _, hb5⟩
        · have HC2 := Lib.hid (show cmdsP (spl 10 r) (l ++ [x]) = cmdsOf s by rw [← HS2.out, if_neg h6])
          go_wp2_with (at_builtin; refine wpList_app rfl _ _ _ rfl w.heap.size 25 11 88 elem_cm u4 l.length (cmCells l) rfl (World.ownsRow.alloc HO3.out _) (w3.heap.size + 1) (some ⟨w3.heap.size, 0, none⟩) 1 1 (cmCells [x]) rfl (rd_newT _ _ _ 11 rfl rfl _ rfl) (cmCells_one [x]) (by unfold maxLen; omega) (by omega) (by simp; omega) ?_; intro v5 w5 hown5 hbel5 hgr5 hat5; obtain ⟨A5, c5, rfl⟩ := own_shape hown5; have HO5 := Lib.hid hown5; clear hown5 hgr5 hat5)
          have hb5 := HB3.out.trans (((Below.refl w3.heap.size w3).alloc (Nat.le_refl _) (.cells #[.int .i64 x.kind, .int .i64 x.acc, .int .i64 x.market, .int .i64 x.n, .int .i64 x.o.id, .int .i64 x.o.acc, .int .i64 x.o.side, .int .i64 x.o.price, .int .i64 x.o.qty, .int .i64 x.how, .bool x.reduce] 25)).mono hs3' |>.trans hbel5)
          have HO6 := Lib.hid (show w5.ownsRow w.heap.size 25 11 (.slice A5 (l.length + 1) c5) (l ++ [x]).length (cmCells (l ++ [x])) by rw [cmCells_app, List.length_append]; exact HO5.out)
          go_roundw
          case rel => exact ⟨r, l ++ [x], rfl, by omega, by simp; omega, HC2, HO6, hb5⟩
          case measure => show (bs r).size < (bs t).size; rw [bs_size, bs_size]; omega
end Go.Proofs.YtockodmbhnlheaaDoor
