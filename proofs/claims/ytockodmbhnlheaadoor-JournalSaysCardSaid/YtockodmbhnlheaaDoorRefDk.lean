/-
  The document's Lines, CheckDisk, Recovered: plain, and walked.
-/
import Derived.Test.YtockodmbhnlheaaDoorJPure
import Derived.Test.YtockodmbhnlheaaDoorRefRead
import Derived.Test.YtockodmbhnlheaaDoorJCmds
import Derived.Test.YtockodmbhnlheaaDoorJRec
import Derived.Deep.RegionHeld3
namespace Go.Proofs.YtockodmbhnlheaaDoor

def linP : List (List UInt8) → Nat → List Cm → Nat → List Cm × Nat × Int
  | [], _, l, a => (l, a, 0)
  | [p], _, l, a => if p = [] then (l, a, 0) else (l, a, 13)
  | p :: q :: r, m, l, a => if (parseOf p).2 ≠ 0 then (l, a, (parseOf p).2) else if l.length = m then (l, a, 2) else linP (q :: r) m (l ++ [(parseOf p).1]) (a + p.length + 1)
theorem linP_step (p r : List UInt8) (m : Nat) (l : List Cm) (a : Nat) : linP (p :: spl 10 r) m l a = if (parseOf p).2 ≠ 0 then (l, a, (parseOf p).2) else if l.length = m then (l, a, 2) else linP (spl 10 r) m (l ++ [(parseOf p).1]) (a + p.length + 1) := by
  obtain ⟨q, r', e⟩ : ∃ q r', spl 10 r = q :: r' := by
    cases h : spl 10 r with
    | nil => exact absurd h (spl_ne 10 r)
    | cons a b => exact ⟨a, b, rfl⟩
  rw [e]; rfl
theorem lin_err : ∀ (ps : List (List UInt8)) (l : List Cm) (a : Nat), l.length ≤ 60 → (linP ps 60 l a).2.2 = (cmdsP ps l).2 ∧ ((cmdsP ps l).2 = 0 → (linP ps 60 l a).1 = (cmdsP ps l).1)
  | [], l, a, _ => ⟨rfl, fun _ => rfl⟩
  | [p], l, a, _ => by
    unfold linP cmdsP
    split
    · exact ⟨rfl, fun _ => rfl⟩
    · exact ⟨rfl, fun h => absurd h (by simp)⟩
  | p :: q :: r, l, a, hl => by
    rw [cmdsP_cons]
    unfold linP
    by_cases h1 : (parseOf p).2 ≠ 0
    · rw [if_pos h1, if_pos h1]; exact ⟨rfl, fun h => absurd h h1⟩
    · rw [if_neg h1, if_neg h1]
      by_cases h2 : l.length = 60
      · rw [if_pos h2, if_pos (by omega)]; exact ⟨rfl, fun h => absurd h (by simp)⟩
      · rw [if_neg h2, if_neg (by omega)]
        exact lin_err (q :: r) _ _ (by simp; omega)
theorem lin_len : ∀ (ps : List (List UInt8)) (m : Nat) (l : List Cm) (a : Nat), l.length ≤ m → (linP ps m l a).1.length ≤ m
  | [], _, _, _, h => h
  | [p], _, _, _, h => by unfold linP; split <;> exact h
  | p :: q :: r, m, l, a, h => by
    unfold linP
    split
    · exact h
    · split
      · exact h
      · exact lin_len (q :: r) m _ _ (by simp; omega)
theorem lin_rec (W S : List UInt8) (l0 : List Cm) (m : Nat) (hm : l0.length + m = 60) : ∀ (ps : List (List UInt8)) (l : List Cm) (a : Nat), l.length ≤ m → a ≤ W.length → spl 10 (W.drop a) = ps →
    recP ps (l0 ++ l) (S ++ W.take a) = (l0 ++ (linP ps m l a).1, S ++ W.take (linP ps m l a).2.1) ∧ (linP ps m l a).2.1 ≤ W.length
  | [], l, a, _, ha, h => absurd h (spl_ne _ _)
  | [p], l, a, _, ha, h => by
    unfold linP recP
    split <;> exact ⟨rfl, ha⟩
  | p :: q :: r, l, a, hl, ha, h => by
    rcases spl_cut 10 (W.drop a) with ⟨_, h2⟩ | ⟨p', rest, h1, h2, h3⟩
    · rw [h2] at h; cases h
    rw [h3] at h
    injection h with hp hr
    subst hp
    unfold linP recP
    by_cases e1 : (parseOf p').2 ≠ 0
    · rw [if_pos e1, if_neg (fun hh => e1 hh.2)]; exact ⟨rfl, ha⟩
    · rw [if_neg e1]
      by_cases e2 : l.length = m
      · rw [if_pos e2, if_neg (fun hh => by have := hh.1; rw [List.length_append] at this; omega)]; exact ⟨rfl, ha⟩
      · rw [if_neg e2, if_pos ⟨by rw [List.length_append]; omega, by omega⟩]
        have hlen : a + p'.length + 1 ≤ W.length := by
          have := congrArg List.length h1
          simp only [List.length_drop, List.length_append, List.length_cons] at this
          omega
        have ht : W.take (a + p'.length + 1) = W.take a ++ p' ++ [10] := by
          rw [show a + p'.length + 1 = a + (p'.length + 1) by omega, List.take_add, h1]
          simp [List.take_append, List.append_assoc, List.take_of_length_le (Nat.le_succ p'.length)]
        have hd : W.drop (a + p'.length + 1) = rest := by
          rw [show a + p'.length + 1 = a + (p'.length + 1) by omega, ← List.drop_drop, h1]
          simp [List.drop_append]
        have ih := lin_rec W S l0 m hm (q :: r) (l ++ [(parseOf p').1]) (a + p'.length + 1) (by simp; omega) hlen (by rw [hd]; exact hr)
        rw [ht] at ih
        simpa [List.append_assoc] using ih

open Go.RowKit

/-- s[lo:hi] -/
theorem cut_lh {P : Program} {t e k bytes : Nat} (E : Elem P t e k bytes) {w : World} {B n c : Nat} {A : Option Addr} {xs : List Value} (h : Rd w B k A n c xs) (lo hi : Nat) (h1 : lo ≤ hi) (h2 : hi ≤ n) :
    ∃ A', (∀ w', (Instr.slice t (.slice A n c) (some (.int .i64 lo)) (some (.int .i64 hi)) none).run P w' = .ok (.slice A' (hi - lo) (c - lo)) w') ∧ Rd w B k A' (hi - lo) (c - lo) ((xs.drop (lo * k)).take ((hi - lo) * k)) := by
  obtain ⟨A', h3, h4⟩ := rd_sliced h lo hi h1 h2
  refine ⟨A', fun w' => ?_, h4⟩
  have hle := h.le
  rw [run_slice_lh _ _ _ _ _ (elem_elem E) .i64 .i64 lo hi (by omega) (by omega) (by omega), elem_size E]
  simp only [Result.andThen, Int.toNat_natCast]
  rw [h3]
theorem not_mem_next {L : List UInt8} {j : Nat} {x : UInt8} (hx : L[j]? = some x) (hp : (10 == (x.toNat : Int)) = false) (h : (10 : UInt8) ∉ L.take j) : (10 : UInt8) ∉ L.take (j + 1) := by
  rw [List.take_add_one, hx]
  simp only [Option.toList_some, List.mem_append, List.mem_singleton, not_or]
  refine ⟨h, fun e => ?_⟩
  subst e
  exact absurd hp (by decide)
set_option maxHeartbeats 1000000 in
theorem index10_any (A : Option Addr) (n c : Nat) (L : List UInt8) (B : Nat) (w : World) (h : Rd w B 1 A n c (u8s L)) :
    Calls Tryd.prog 36 #[.slice A n c, .int .u8 10] w fun e w' => ((e = .returned (.int .i64 (-1)) ∧ (10 : UInt8) ∉ L) ∨ ∃ p r, e = .returned (.int .i64 p.length) ∧ L = p ++ 10 :: r ∧ (10 : UInt8) ∉ p) ∧ w = w' := by
  have hle := h.le
  have hcap := h.cap
  have HL := Lib.hid h.ofU8
  unfold maxLen at hcap
  go_enter Tryd.func36, Tryd.ntmps36
  go_wp2_with fail
  go_loopw [8] (fun i wr => ∃ j : Nat, j ≤ n ∧ i = .int .i64 j ∧ w = wr ∧ Hid ((10 : UInt8) ∉ L.take j)) (fun i _ => n - (intOf i).toNat)
  case atStart => exact ⟨0, Nat.zero_le _, rfl, rfl, Lib.hid (by simp)⟩
  case round =>
    obtain ⟨j, hj, rfl, rfl, HP⟩ := hrel
    by_cases hlt : j < n
    · obtain ⟨b, o', rfl, hb, x, hx, k0⟩ := h.u8 hlt
      have HX := Lib.hid hx
      clear hx
      rcases bool_csU ((10 : Int) == (x.toNat : Int)) with hp | hp
      · have HE := Lib.hid (show L = L.take j ++ 10 :: L.drop (j + 1) by
          have hx := HX.out
          have h1 : x = 10 := by
            have : (10 : Int) = (x.toNat : Int) := by simpa using hp
            exact UInt8.toNat_inj.1 (by show x.toNat = 10; omega)
          have hl := (List.getElem?_eq_some_iff.1 hx)
          conv => lhs; rw [← List.take_append_drop j L, List.drop_eq_getElem_cons hl.1, hl.2, h1])
        go_wp2_with fail
        go_ret
        refine ⟨.inr ⟨L.take j, L.drop (j + 1), ?_, HE.out, HP.out⟩, rfl⟩
        rw [List.length_take, Nat.min_eq_left (by rw [HL.out]; omega)]
        rfl
      · have HN := Lib.hid (not_mem_next HX.out hp HP.out)
        go_wp2_with fail
        go_roundw
        case rel => exact ⟨j + 1, by omega, by go_num, trivial, HN⟩
        case measure => simp [intOf]; omega
    · have hjn : j = n := by omega
      have HE := Lib.hid (show (10 : UInt8) ∉ L by have := HP.out; rw [hjn, List.take_of_length_le (by rw [HL.out]; exact Nat.le_refl _)] at this; exact this)
      clear hjn
      go_wp2_with fail
      go_ret
      exact ⟨.inl ⟨rfl, HE.out⟩, rfl⟩
set_option maxHeartbeats 2000000 in
set_option maxRecDepth 100000 in
theorem lines_any (A : Option Addr) (n c : Nat) (b : List UInt8) (m : Nat) (B : Nat) (w : World) (h : Rd w B 1 A n c (u8s b)) (hB : B ≤ w.heap.size) (hn : n ≤ 20000) (hm : m ≤ 60) (he : EnvF w) :
    Calls Tryd.prog 46 #[.slice A n c, .int .i64 m] w fun e w' => ∃ v L a k, e = .returned (.tuple #[v, .int .i64 ((a : Nat) : Int), .int .i64 k]) ∧ linP (spl 10 b) m [] 0 = (L, a, k) ∧ w'.ownsRow w.heap.size 25 11 v L.length (cmCells L) ∧ Below w.heap.size w w' := by
  have HE := Lib.hid he
  have HR := Lib.hid h
  have HLEN := Lib.hid h.ofU8
  have HBB := Lib.hid hB
  clear he h hB
  go_enter Tryd.func46, Tryd.ntmps46
  go_wp2_with fail
  go_loopw [7, 8] (fun v7 v8 wr => ∃ (l : List Cm) (a : Nat), v8 = .int .i64 (a : Int) ∧ a ≤ n ∧ l.length ≤ m ∧ Hid (linP (spl 10 (b.drop a)) m l a = linP (spl 10 b) m [] 0) ∧ Hid (wr.ownsRow w.heap.size 25 11 v7 l.length (cmCells l)) ∧ Below w.heap.size w wr) (fun _ v8 _ => n - (intOf v8).toNat)
  case atStart => exact ⟨[], 0, rfl, by omega, by simp, Lib.hid rfl, Lib.hid (World.ownsRow_nil _ _ _ _), Below.refl _ _⟩
  case round =>
    obtain ⟨l, a, rfl, ha, hl, HC, HO, hbr⟩ := hrel
    have HB := Lib.hid hbr
    clear hbr
    obtain ⟨A7, c7, rfl⟩ := own_shape HO.out
    by_cases hlt : a < n
    rotate_left
    · have hR := Lib.hid (show linP (spl 10 b) m [] 0 = (l, a, 0) by rw [← HC.out, List.drop_of_length_le (by rw [HLEN.out]; omega)]; rfl)
      go_wp2_with fail
      refine bodyPost_ret (v := .tuple #[.slice A7 l.length c7, .int .i64 (a : Int), .int .i64 0]) (by simp [results, Tryd.results46, go_sem, *]) rfl ?_
      exact ⟨_, l, a, 0, rfl, hR.out, HO.out, HB.out⟩
    · have HLT := Lib.hid hlt
      obtain ⟨A1, hcut, hr1⟩ := cut_l elem_u8 (HR.out.below (HB.out.mono HBB.out)) a (by omega)
      have hr1' : Rd wr B 1 A1 (n - a) (c - a) (u8s (b.drop a)) := by rw [show (u8s b).drop (a * 1) = u8s (b.drop a) by simp [u8s, List.map_drop]] at hr1; exact hr1
      have HR1 := Lib.hid hr1'
      clear hr1 hr1'
      go_wp2_with fail
      refine (index10_any A1 (n - a) (c - a) (b.drop a) B wr HR1.out).mono ?_
      rintro e w1 ⟨hix, rfl⟩
      rcases hix with ⟨rfl, hno⟩ | ⟨p, r, rfl, hpr, hp⟩
      · have hR := Lib.hid (show linP (spl 10 b) m [] 0 = (l, a, 13) by
          rw [← HC.out, spl_one 10 _ hno]
          unfold linP
          rw [if_neg (fun e => by have := congrArg List.length e; rw [List.length_drop, HLEN.out] at this; simp at this; omega)])
        clear hno hcut
        go_wp2_with fail
        refine bodyPost_ret (v := .tuple #[.slice A7 l.length c7, .int .i64 (a : Int), .int .i64 13]) (by simp [results, Tryd.results46, go_sem, *]) rfl ?_
        exact ⟨_, l, a, 13, rfl, hR.out, HO.out, HB.out⟩
      · have hlen : a + p.length + 1 ≤ n := by
          have := congrArg List.length hpr
          simp only [List.length_drop, List.length_append, List.length_cons] at this
          have h2 := HLEN.out
          omega
        have HD := Lib.hid (show b.drop (a + p.length + 1) = r by rw [show a + p.length + 1 = a + (p.length + 1) by omega, ← List.drop_drop, hpr]; simp [List.drop_append])
        have HS := Lib.hid (show linP (spl 10 b) m [] 0 = if (parseOf p).2 ≠ 0 then (l, a, (parseOf p).2) else if l.length = m then (l, a, 2) else linP (spl 10 r) m (l ++ [(parseOf p).1]) (a + p.length + 1) by rw [← HC.out, hpr, spl_app 10 r p hp, linP_step])
        obtain ⟨A2, hcut2, hr2⟩ := cut_lh elem_u8 (HR.out.below (HB.out.mono HBB.out)) a (a + p.length) (by omega) (by omega)
        have hr2' : Rd wr B 1 A2 p.length (c - a) (u8s p) := by
          rw [show ((u8s b).drop (a * 1)).take ((a + p.length - a) * 1) = u8s p by rw [Nat.mul_one, Nat.mul_one, Nat.add_sub_cancel_left]; unfold u8s; rw [← List.map_drop, hpr, List.map_append, List.take_append_of_le_length (by simp), List.take_of_length_le (by simp)], Nat.add_sub_cancel_left] at hr2
          exact hr2
        have hcs : ∀ w', (Instr.slice 33 (.slice A n c) (some (.int .i64 (a : Int))) (some (.int .i64 ((a : Int) + (p.length : Int)))) none).run Tryd.prog w' = .ok (.slice A2 p.length (c - a)) w' := by
          rw [Nat.add_sub_cancel_left] at hcut2
          intro w'
          rw [show ((a : Int) + (p.length : Int)) = ((a + p.length : Nat) : Int) by omega]
          exact hcut2 w'
        have hconv := str_of_bytes hr2'
        have hw1 : wrap64 ((a : Int) + (p.length : Int)) = (a : Int) + (p.length : Int) := wrap64_R _ (by omega)
        have hnl : ¬ (p.length : Int) < 0 := by omega
        have HPO := Lib.hid (show parseOf p = readOf p by unfold parseOf; rw [if_neg (by omega)])
        clear hcut hcut2 hr2 hr2' hpr hp HC HR1
        go_wp2_with fail
        refine (refRead_any p (by omega) wr (HE.out.next HB.out)).mono ?_
        rintro e w2 ⟨x, k, rfl, hp, hb2⟩
        have HP := Lib.hid (show parseOf p = (x, k) by rw [HPO.out, hp])
        have HO2 := Lib.hid (own_below HO.out hb2 (Nat.le_refl _))
        have hs2 := hb2.size
        have HB2 := Lib.hid (HB.out.trans (hb2.mono HB.out.size))
        clear hb2 hp HO HB hcs hconv
        unfold cmV
        go_upto_region 8 with (fail)
        refine wp_nameT ?_
        intro w3 hw3
        have hs3 : w.heap.size ≤ w2.heap.size := HB2.out.size
        have X3 : Blk w3 w2.heap.size 25 #[.int .i64 x.kind, .int .i64 x.acc, .int .i64 x.market, .int .i64 x.n, .int .i64 x.o.id, .int .i64 x.o.acc, .int .i64 x.o.side, .int .i64 x.o.price, .int .i64 x.o.qty, .int .i64 x.how, .bool x.reduce] := by rw [hw3]; exact Blk.new w2 _ _
        have HB3 : Hid (Below w.heap.size w w3) := by rw [hw3]; exact Lib.hid (HB2.out.alloc hs3 _)
        have HO3 : Hid (w3.ownsRow w.heap.size 25 11 (.slice A7 l.length c7) l.length (cmCells l)) := by rw [hw3]; exact Lib.hid (World.ownsRow.alloc HO2.out _)
        clear hw3 HO2 HB2
        have hs3' := HB3.out.size
        obtain ⟨⟨v0, v1, v2, v3, v4, v5, v6, v7, v8, v9, v10⟩, -⟩ := bl_c11 X3
        by_cases h5 : k = 0
        rotate_left
        · have hR := Lib.hid (show linP (spl 10 b) m [] 0 = (l, a, k) by rw [HS.out, HP.out, if_pos h5])
          have d5 : (k != 0) = true := by simpa using h5
          clear h5
          go_wp2_with fail
          refine bodyPost_ret (v := .tuple #[.slice A7 l.length c7, .int .i64 (a : Int), .int .i64 k]) (by simp [results, Tryd.results46, go_sem, *]) rfl ?_
          exact ⟨_, l, a, k, rfl, hR.out, HO3.out, HB3.out⟩
        have HS2 := Lib.hid (show linP (spl 10 b) m [] 0 = if l.length = m then (l, a, 2) else linP (spl 10 r) m (l ++ [x]) (a + p.length + 1) by rw [HS.out, HP.out, h5]; rfl)
        subst h5
        by_cases h6 : l.length = m
        · have hR := Lib.hid (show linP (spl 10 b) m [] 0 = (l, a, 2) by rw [HS2.out, if_pos h6])
          have d6 : ((l.length : Int) == (m : Int)) = true := by simp [h6]
          clear h6
          go_wp2_with fail
          clear d6
          refine bodyPost_ret (v := .tuple #[.slice A7 l.length c7, .int .i64 (a : Int), .int .i64 2]) (by simp [results, Tryd.results46, go_sem, *]) rfl ?_
          exact ⟨_, l, a, 2, rfl, hR.out, HO3.out, HB3.out⟩
        · have HC2 := Lib.hid (show linP (spl 10 (b.drop (a + p.length + 1))) m (l ++ [x]) (a + p.length + 1) = linP (spl 10 b) m [] 0 from (by rw [HD.out]; exact (HS2.out.trans (if_neg h6)).symm))
          have HL6 := Lib.hid (show l.length + 1 ≤ m by omega)
          have d6 : ((l.length : Int) == (m : Int)) = false := by simp; omega
          clear h6
          go_upto_region 12 with (fail)
          clear d6
          clear hw1 hnl
          go_wp2_with (at_builtin; refine wpList_app rfl _ _ _ rfl w.heap.size 25 11 88 elem_cm (.slice A7 l.length c7) l.length (cmCells l) rfl (World.ownsRow.alloc HO3.out _) (w3.heap.size + 1) (some ⟨w3.heap.size, 0, none⟩) 1 1 (cmCells [x]) rfl (rd_newT _ _ _ 11 rfl rfl _ rfl) (cmCells_one [x]) (by unfold maxLen; omega) (by omega) (by simp; omega) ?_; intro v5 w5 hown5 hbel5 hgr5 hat5; obtain ⟨A5, c5, rfl⟩ := own_shape hown5; have HO5 := Lib.hid hown5; clear hown5 hgr5 hat5)
          have hb5 := HB3.out.trans (((Below.refl w3.heap.size w3).alloc (Nat.le_refl _) (.cells #[.int .i64 x.kind, .int .i64 x.acc, .int .i64 x.market, .int .i64 x.n, .int .i64 x.o.id, .int .i64 x.o.acc, .int .i64 x.o.side, .int .i64 x.o.price, .int .i64 x.o.qty, .int .i64 x.how, .bool x.reduce] 25)).mono hs3' |>.trans hbel5)
          have HO6 := Lib.hid (show w5.ownsRow w.heap.size 25 11 (.slice A5 (l.length + 1) c5) (l ++ [x]).length (cmCells (l ++ [x])) by rw [cmCells_app, List.length_append]; exact HO5.out)
          go_roundw
          case rel => exact ⟨l ++ [x], a + p.length + 1, by congr 1, by omega, by have := HL6.out; simp; omega, HC2, HO6, hb5⟩
          case measure => simp [intOf]; omega

open Go.RowKit

set_option maxHeartbeats 1000000 in
set_option maxRecDepth 100000 in
theorem rdCheck_any (d : Dsk) (A A' : Option Addr) (c c' B : Nat) (w : World) (h : DkR w B A A' c c' d) (hB : B ≤ w.heap.size) (he : EnvF w) :
    Calls Tryd.prog 21 #[.agg #[.slice A d.safe.length c, .slice A' d.wait.length c']] w fun e w' => e = .returned (.int .i64 (dErr d)) ∧ Below w.heap.size w w' := by
  have HE := Lib.hid he
  have HR := Lib.hid h
  have hcap := h.s.cap
  have hle := h.s.le
  have hcap' := h.t.cap
  have hle' := h.t.le
  simp only [maxLen] at hcap hcap'
  have HD := Lib.hid (show dErr d = if 20000 < d.safe.length ∨ 20000 - (d.safe.length : Int) < d.wait.length then 2 else (cmdsOf d.safe).2 from rfl)
  clear he h
  go_enter Tryd.func21, Tryd.ntmps21
  go_upto_region 1 with (fail)
  refine wp_nameR ?_
  intro w1 hw1
  have X1 : Blk w1 w.heap.size 36 #[.slice A d.safe.length c, .slice A' d.wait.length c'] := by rw [hw1]; exact Blk.new w _ _
  have HB1 : Hid (Below w.heap.size w w1) := by rw [hw1]; exact Lib.hid ((Below.refl _ _).alloc (Nat.le_refl _) _)
  clear hw1
  obtain ⟨k0, k1⟩ := bl_c2 X1
  by_cases h1 : 20000 < d.safe.length
  · have HZ := Lib.hid (HD.out.trans (if_pos (.inl h1)))
    clear HD
    go_wp2_with fail
    go_ret
    exact ⟨ret_iT HZ.out.symm, HB1.out⟩
  · by_cases h2 : 20000 - (d.safe.length : Int) < d.wait.length
    · have HZ := Lib.hid (HD.out.trans (if_pos (.inr h2)))
      clear HD
      go_wp2_with fail
      go_ret
      exact ⟨ret_iT HZ.out.symm, HB1.out⟩
    · have HZ := Lib.hid (HD.out.trans (if_neg (by rintro (h | h) <;> omega)))
      clear HD
      go_wp2_with fail
      refine (lines_any A d.safe.length c d.safe 60 B w1 (HR.out.s.below (HB1.out.mono hB)) (Nat.le_trans hB HB1.out.size) (by omega) (by omega) (HE.out.next HB1.out)).mono ?_
      rintro e w2 ⟨v, L, a, k, rfl, hk, -, hb2⟩
      have HK := Lib.hid (show k = (cmdsOf d.safe).2 by have := (lin_err (spl 10 d.safe) [] 0 (by simp)).1; rw [hk] at this; exact this)
      have HB2 := Lib.hid (HB1.out.trans (hb2.mono HB1.out.size))
      clear hb2 hk
      go_wp2_with fail
      go_ret
      exact ⟨ret_iT (by rw [HZ.out, HK.out]), HB2.out⟩
theorem below_alR {w0 w : World} {B : Nat} (h : Below B w0 w) (o : Obj) (hB : B ≤ w.heap.size := by (first | assumption | omega | (simp; omega))) : Below B w0 (w.alloc o) := h.alloc hB o
theorem own_emptyR (w : World) : (w.alloc (.cells #[] 5)).ownsRow w.heap.size 5 1 (.slice (some ⟨w.heap.size, 0, none⟩) 0 0) 0 [] := by
  have := World.ownsRow_lit (base := w.heap.size) (e := 5) (size := 1) w #[] 0 (Nat.le_refl _) (by decide) (by simp)
  simpa using this
theorem rec_lin {d : Dsk} (hd : dErr d = 0) {L M : List Cm} {a a' : Nat} {k k' : Int} (h1 : linP (spl 10 d.safe) 60 [] 0 = (L, a, k)) (h2 : linP (spl 10 d.wait) (60 - L.length) [] 0 = (M, a', k')) :
    recoverD d = (⟨d.safe ++ d.wait.take a', []⟩, L ++ M, 0) ∧ a' ≤ d.wait.length ∧ L.length ≤ 60 ∧ M.length ≤ 60 - L.length := by
  have h3 := lin_err (spl 10 d.safe) [] 0 (by simp)
  rw [h1] at h3
  have hL : L = (cmdsOf d.safe).1 := h3.2 ((dErr_ok.1 hd).2)
  have hl := lin_len (spl 10 d.safe) 60 [] 0 (by simp)
  rw [h1] at hl
  have hm := lin_len (spl 10 d.wait) (60 - L.length) [] 0 (by simp)
  rw [h2] at hm
  have hr := lin_rec d.wait d.safe L (60 - L.length) (by have : L.length ≤ 60 := hl; omega) (spl 10 d.wait) [] 0 (by simp) (by omega) (by simp)
  rw [h2] at hr
  simp only [List.append_nil, List.take_zero] at hr
  refine ⟨?_, hr.2, hl, hm⟩
  unfold recoverD
  rw [if_neg (by omega), ← hL, hr.1]
set_option maxHeartbeats 2000000 in
set_option maxRecDepth 100000 in
theorem rrec_any (d : Dsk) (A A' : Option Addr) (c c' B : Nat) (w : World) (h : DkR w B A A' c c' d) (hB : B ≤ w.heap.size) (he : EnvF w) (hd : dErr d = 0) :
    Calls Tryd.prog 25 #[.agg #[.slice A d.safe.length c, .slice A' d.wait.length c']] w fun e w' => ∃ v vl, e = .returned (.tuple #[v, vl]) ∧ OwnDk w' w.heap.size v (recoverD d).1 ∧ w'.ownsRow w.heap.size 25 11 vl (recoverD d).2.1.length (cmCells (recoverD d).2.1) ∧ Below w.heap.size w w' := by
  have HE := Lib.hid he
  have HR := Lib.hid h
  have HDD := Lib.hid hd
  have hlen := (dErr_ok.1 hd).1
  clear he h hd
  go_enter Tryd.func25, Tryd.ntmps25
  go_upto_region 1 with (fail)
  refine wp_nameR ?_
  intro w1 hw1
  have X1 : Blk w1 w.heap.size 36 #[.slice A d.safe.length c, .slice A' d.wait.length c'] := by rw [hw1]; exact (Blk.new w _ _).alloc _
  have X2 : Blk w1 (w.heap.size + 1) 36 #[.slice none 0 0, .slice none 0 0] := by rw [hw1]; have := Blk.new (w.alloc (.cells #[.slice A d.safe.length c, .slice A' d.wait.length c'] 36)) 36 #[.slice none 0 0, .slice none 0 0]; simpa using this
  have HB1 : Hid (Below w.heap.size w w1) := by rw [hw1]; exact Lib.hid (((Below.refl _ _).alloc (Nat.le_refl _) _).alloc (by simp) _)
  clear hw1
  have hs1 : w.heap.size + 2 ≤ w1.heap.size := X2.lt
  obtain ⟨k0, k1⟩ := bl_c2 X1
  go_wp2_with fail
  refine (lines_any A d.safe.length c d.safe 60 B w1 (HR.out.s.below (HB1.out.mono hB)) (Nat.le_trans hB HB1.out.size) (by omega) (by omega) (HE.out.next HB1.out)).mono ?_
  rintro e w2 ⟨v2, L, a, k, rfl, hk1, ho1, hb2⟩
  have HK1 := Lib.hid hk1
  have HO1 := Lib.hid ho1
  have HB2 := Lib.hid (HB1.out.trans (hb2.mono HB1.out.size))
  have hlL : L.length ≤ 60 := by have := lin_len (spl 10 d.safe) 60 [] 0 (by simp); rw [hk1] at this; exact this
  obtain ⟨A4, c4, rfl⟩ := own_shape ho1
  clear k0 k1
  replace X1 := X1.below hb2 X1.lt
  replace X2 := X2.below hb2 X2.lt
  have hs2 := hb2.size
  clear hk1 ho1 hb2
  obtain ⟨k0, k1⟩ := bl_c2 X1
  go_wp2_with fail
  rw [show (60 - (L.length : Int)) = ((60 - L.length : Nat) : Int) by omega]
  refine (lines_any A' d.wait.length c' d.wait (60 - L.length) B w2 (HR.out.t.below (HB2.out.mono hB)) (Nat.le_trans hB HB2.out.size) (by omega) (by omega) (HE.out.next HB2.out)).mono ?_
  rintro e w3 ⟨v3, M, a', k', rfl, hk2, ho2, hb3⟩
  obtain ⟨hrec, ha', -, hlM⟩ := rec_lin HDD.out HK1.out hk2
  have HREC := Lib.hid hrec
  have HO2 := Lib.hid ho2
  have HO3 := Lib.hid (own_below HO1.out hb3 (Nat.le_refl _))
  have HB3 := Lib.hid (HB2.out.trans (hb3.mono HB2.out.size))
  obtain ⟨A7, c7, rfl⟩ := own_shape ho2
  clear k0 k1
  replace X1 := X1.below hb3 X1.lt
  replace X2 := X2.below hb3 X2.lt
  have hs3 := hb3.size
  have HS3 := Lib.hid (HR.out.s.below (HB3.out.mono hB))
  have HT3 := Lib.hid (HR.out.t.below (HB3.out.mono hB))
  obtain ⟨AT, hcut, hrt⟩ := cut_h elem_u8 HT3.out a' ha'
  have HRT := Lib.hid (show Rd w3 B 1 AT a' c' (u8s (d.wait.take a')) by rw [show (u8s d.wait).take (a' * 1) = u8s (d.wait.take a') by simp [u8s, List.map_take]] at hrt; exact hrt)
  have HR7 := Lib.hid (Rd.of_own ho2)
  clear hk2 ho2 hb3 hrec HO1 HB2 HB1 hrt HK1 HR
  go_upto_region 3 with (fail)
  have hx1 := X1.lt
  have KS : Hid (∀ W, Below (w.heap.size + 1) w3 W → W.cell? ⟨w.heap.size, 0, none⟩ = some (.slice A d.safe.length c) ∧ W.cell? ⟨w.heap.size, 1, none⟩ = some (.slice A' d.wait.length c')) := Lib.hid fun W hW => bl_c2 (X1.below hW (by omega))
  have h33 : Below (w.heap.size + 1) w3 w3 := Below.refl _ _
  have KT : Hid (∀ W v v', Below (w.heap.size + 1) w3 W → ((W.setCell ⟨w.heap.size + 1, 0, none⟩ v).setCell ⟨w.heap.size + 1, 1, none⟩ v').cell? ⟨w.heap.size, 0, none⟩ = some (.slice A d.safe.length c) ∧ ((W.setCell ⟨w.heap.size + 1, 0, none⟩ v).setCell ⟨w.heap.size + 1, 1, none⟩ v').cell? ⟨w.heap.size, 1, none⟩ = some (.slice A' d.wait.length c')) := by
    refine Lib.hid fun W v v' hW => ?_
    obtain ⟨h1, h2⟩ := KS.out W hW
    have n1 : ¬ w.heap.size + 1 = w.heap.size := by omega
    exact ⟨by simp [go_sem, h1], by simp [go_sem, h2]⟩
  go_region_held3 (fun W => W.cell? ⟨w.heap.size, 0, none⟩ = some (.slice A d.safe.length c) ∧ W.cell? ⟨w.heap.size, 1, none⟩ = some (.slice A' d.wait.length c'))
    (first | (exact KS.out _ (by first | assumption | exact Below.drew (by assumption) | exact below_alR (by assumption) _ | exact below_alR (Below.drew (by assumption)) _)) | (exact KT.out _ _ _ (by assumption)))
    ((first
      | (refine step_appT rfl (.tmp 27) (.tmp 29) 33 rfl w3.heap.size 5 1 1 elem_u8 (.slice (some ⟨w3.heap.size, 0, none⟩) 0 0) 0 [] (by simp [Act.eval]) (own_emptyR _) B A d.safe.length c (u8s d.safe) (by simp [Act.eval]) (HS3.out.below (Below.mono (w := w3) (B := w.heap.size + 1) (by first | assumption | exact Below.drew (by assumption) | exact below_alR (by assumption) _ | exact below_alR (Below.drew (by assumption)) _) (by omega))) (u8s_one _) (by unfold maxLen; omega) (by omega) (by simp) ?_; intro vP wP hownP hbP hgrP hatP; obtain ⟨AP, cP, rfl⟩ := own_shape hownP; have hYP : Below w3.heap.size w3 wP := ((Below.refl w3.heap.size w3).drew.alloc (Nat.le_refl _) _).trans hbP; have hXP : Below (w.heap.size + 1) w3 wP := hYP.mono (by omega); clear hbP hgrP hatP)
      | (refine step_appT rfl (.tmp 30) (.tmp 34) 33 rfl w3.heap.size 5 1 1 elem_u8 (.slice AP (0 + d.safe.length) cP) (0 + d.safe.length) ([] ++ u8s d.safe) (by simp [Act.eval]) (by with_reducible exact hownP) B AT a' c' (u8s (d.wait.take a')) (by simp [Act.eval]) (HRT.out.below (Below.mono hYP (by omega))) (u8s_one _) (by unfold maxLen; omega) (by omega) hYP.size ?_; intro vQ wQ hownQ hbQ hgrQ hatQ; obtain ⟨AQ, cQ, rfl⟩ := own_shape hownQ; have hYQ : Below w3.heap.size w3 wQ := hYP.trans hbQ; have hXQ : Below (w.heap.size + 1) w3 wQ := hYQ.mono (by omega); clear hbQ hgrQ hatQ)
      | (refine step_appT rfl (.tmp 37) (.tmp 38) 42 rfl w1.heap.size 25 11 88 elem_cm (.slice A4 L.length c4) L.length (cmCells L) (by simp [Act.eval]) (own_below HO3.out hYQ (Nat.le_refl _)) w3.heap.size A7 M.length c7 (cmCells M) (by simp [Act.eval]) (HR7.out.below hYQ) (cmCells_one _) (by unfold maxLen; omega) (by omega) (Nat.le_trans (by omega) hYQ.size) ?_; intro vR wR hownR hbR hgrR hatR; obtain ⟨AR, cR, rfl⟩ := own_shape hownR; have hOQ := own_grownD hownQ hgrR (own_sepD hownQ (own_below HO3.out hYQ (Nat.le_refl _)) (by decide)); have hYR : Below w1.heap.size w3 wR := (hYQ.mono (by omega)).trans hbR; have hXR : Below (w.heap.size + 1) w3 wR := hYR.mono (by omega); have hXX := X2.below hYR (by omega); obtain ⟨⟨m0, m1⟩, f0, f1⟩ := bl_c2f hXX; clear hbR hgrR hatR)
      | fail "none"))
  all_goals
    have HBR := Lib.hid (HB3.out.trans (hYR.mono (by omega)))
    have HXX := Lib.hid hXX
    have HOR := Lib.hid hownR
    have HOQ := Lib.hid (show wR.ownsRow w3.heap.size 5 1 (.slice AQ (d.safe.length + a') cQ) (d.safe.length + a') (u8s (d.safe ++ d.wait.take a')) by
      have h := hOQ
      rw [Nat.zero_add, List.nil_append, ← u8s_app] at h
      exact h)
    clear hXX hownR hOQ hownQ hownP KS KT HO2 HO3 HS3 HT3 HRT HR7 hcut X1 X2 h33
    go_wp2_with fail
    refine exit_nameT ?_
    intro Z hZ
    obtain ⟨XZ, hbZ⟩ := set2w HXX.out HBR.out (by omega) (.slice AQ (d.safe.length + a') cQ) (.slice none 0 0)
    have O1 := own_far2 (g := w.heap.size + 1) HOQ.out (fun e => by have := (World.ownsRow.lt HOQ.out _ e).1; omega) (.slice AQ (d.safe.length + a') cQ) (.slice none 0 0)
    have O2 := own_farT (p := ⟨w.heap.size + 1, 1, none⟩) (own_farT (p := ⟨w.heap.size + 1, 0, none⟩) HOR.out (fun e => by have h := (World.ownsRow.lt HOR.out _ e).1; have h2 : w1.heap.size ≤ w.heap.size + 1 := h; omega) (.slice AQ (d.safe.length + a') cQ)) (fun e => by have h := (World.ownsRow.lt HOR.out _ e).1; have h2 : w1.heap.size ≤ w.heap.size + 1 := h; omega) (.slice none 0 0)
    have O2' := own_mono (base' := w.heap.size) O2 (by omega)
    rw [← cmCells_app, ← List.length_append] at O2'
    have O3 := ownDk_mk (t := []) (own_mono (base' := w.heap.size) O1 (by omega)) (World.ownsRow_nil _ _ _ _)
    rw [← hZ] at XZ hbZ O2' O3
    clear hZ O1 O2 m0 m1 f0 f1
    obtain ⟨z0, z1⟩ := bl_c2 XZ
    refine bodyPost_ret (v := .tuple #[.agg #[.slice AQ (d.safe.length + a') cQ, .slice none 0 0], .slice AR (L.length + M.length) cR]) (by simp [results, Tryd.results25, go_sem, *]) rfl ?_
    rw [HREC.out]
    refine ⟨_, _, rfl, O3, ?_, hbZ⟩
    rw [List.length_append] at O2' ⊢
    exact O2'
end Go.Proofs.YtockodmbhnlheaaDoor
