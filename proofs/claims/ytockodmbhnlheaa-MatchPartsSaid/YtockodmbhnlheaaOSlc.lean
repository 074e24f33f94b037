/-
  slices.Clone, Equal at []api.Order; orders compared.
-/
import Derived.Test.YtockodmbhnlheaaIdx
namespace Go.Proofs.Ytockodmbhnlheaa
open Go.RowKit


set_option maxHeartbeats 400000 in
theorem clone_ods (A : Option Addr) (n c : Nat) (xs : List Value) (B : Nat) (w : World) (h : Rd w B 5 A n c xs) (h1 : ∀ u ∈ xs, u.oneCell' = true) (hB : B ≤ w.heap.size) (hb : n * 40 ≤ 140737488355328) :
    Calls Try.prog 66 #[.slice A n c] w (RetRow w 71 5 n xs) := by
  have q : ∀ (w : World) (a : Option Addr) (n c n' c' : Nat), (binOp .eql 60 (.slice a n c) (.slice none n' c')).run Try.prog w = .ok (.bool a.isNone) w := fun w a n c n' c' => Lib.run_eql_slice_nil w _ _ a n c n' c' Try.underlying60
  cases A with
  | none =>
    have h0 := h.nil rfl
    have hle := h.le
    obtain rfl : n = 0 := by omega
    have hx : xs = [] := List.eq_nil_of_length_eq_zero (by simpa using h.len)
    subst hx h0
    go_enter Try.func66, Try.ntmps66
    go_wp2_with fail
    go_ret
    exact ⟨_, rfl, World.ownsRow_nil _ _ _ _, Below.refl _ _⟩
  | some ad =>
    have HR := Lib.hid h
    have hle := h.le
    have hcap := h.cap
    clear h
    go_enter Try.func66, Try.ntmps66
    go_wp2_with (at_builtin; refine wpList_app rfl _ _ _ rfl w.heap.size _ _ _ elem_od _ _ _ rfl (World.ownsRow_made w #[] 0 (Nat.le_refl _) (Nat.zero_le _) rfl) B (some ad) n c xs rfl (HR.out.alloc hB _) h1 (by simp only [maxLen] at hcap ⊢; omega) (by omega) (by simp) ?_; intro v' w' hown hbel hg _)
    go_ret
    exact ⟨_, rfl, by simpa using hown, ((Below.refl _ _).alloc (Nat.le_refl _) _).trans hbel⟩


theorem fieldsOf_of {P : Program} {t : TypeId} {fs : Array Field} (h : P.underlying t = some (.struct fs)) : P.fieldsOf t = fs := by unfold Program.fieldsOf; rw [h]
theorem run_part_int {P : Program} {t : TypeId} {k : IntKind} (h : P.underlying t = some (.int k)) (cs : Array Value) (off : Nat) (v : Value) (hv : cs[off]? = some v) (w : World) : (part t cs off).run P w = .ok v w := by
  simp [part, isAgg, run_underlying h, Result.andThen, hv]
theorem eqIn_od (a b : Od) (w : World) : (Op.equalIn 10000 71 (.agg #[.int .i64 a.id, .int .i64 a.acc, .int .i64 a.side, .int .i64 a.price, .int .i64 a.qty]) (.agg #[.int .i64 b.id, .int .i64 b.acc, .int .i64 b.side, .int .i64 b.price, .int .i64 b.qty])).run Try.prog w = .ok (sameOd a b) w := by
  rw [run_equalIn_struct w 9999 _ _ _ (by rw [fieldsOf_of Try.underlying71]; exact Try.underlying71) (by kernel_rfl), fieldsOf_of Try.underlying71]
  have hi := Try.underlying3
  have p0 : ∀ (x0 x1 x2 x3 x4 : Int) w, (part 3 #[.int .i64 x0, .int .i64 x1, .int .i64 x2, .int .i64 x3, .int .i64 x4] 0).run Try.prog w = .ok (.int .i64 x0) w := fun _ _ _ _ _ w => run_part_int hi _ 0 _ rfl w
  have p1 : ∀ (x0 x1 x2 x3 x4 : Int) w, (part 3 #[.int .i64 x0, .int .i64 x1, .int .i64 x2, .int .i64 x3, .int .i64 x4] 1).run Try.prog w = .ok (.int .i64 x1) w := fun _ _ _ _ _ w => run_part_int hi _ 1 _ rfl w
  have p2 : ∀ (x0 x1 x2 x3 x4 : Int) w, (part 3 #[.int .i64 x0, .int .i64 x1, .int .i64 x2, .int .i64 x3, .int .i64 x4] 2).run Try.prog w = .ok (.int .i64 x2) w := fun _ _ _ _ _ w => run_part_int hi _ 2 _ rfl w
  have p3 : ∀ (x0 x1 x2 x3 x4 : Int) w, (part 3 #[.int .i64 x0, .int .i64 x1, .int .i64 x2, .int .i64 x3, .int .i64 x4] 3).run Try.prog w = .ok (.int .i64 x3) w := fun _ _ _ _ _ w => run_part_int hi _ 3 _ rfl w
  have p4 : ∀ (x0 x1 x2 x3 x4 : Int) w, (part 3 #[.int .i64 x0, .int .i64 x1, .int .i64 x2, .int .i64 x3, .int .i64 x4] 4).run Try.prog w = .ok (.int .i64 x4) w := fun _ _ _ _ _ w => run_part_int hi _ 4 _ rfl w
  have he := fun (x y : Int) w => run_equalIn_int w 9998 3 .i64 .i64 x y hi
  simp only [Op.eqFields]
  rw [if_pos (by decide), if_pos (by decide), if_pos (by decide), if_pos (by decide), if_pos (by decide)]
  simp only [Sem.run_bind, p0, p1, p2, p3, p4, Result.andThen_ok, he, Sem.run_ite, Sem.run_pure]
  unfold sameOd
  rw [show (a.id == b.id) = decide (a.id = b.id) from rfl, show (a.acc == b.acc) = decide (a.acc = b.acc) from rfl, show (a.side == b.side) = decide (a.side = b.side) from rfl, show (a.price == b.price) = decide (a.price = b.price) from rfl, show (a.qty == b.qty) = decide (a.qty = b.qty) from rfl]
  cases decide (a.id = b.id) <;> cases decide (a.acc = b.acc) <;> cases decide (a.side = b.side) <;> cases decide (a.price = b.price) <;> cases decide (a.qty = b.qty) <;> rfl
theorem run_neq_od (a b : Od) (w : World) : (binOp .neq 71 (.agg #[.int .i64 a.id, .int .i64 a.acc, .int .i64 a.side, .int .i64 a.price, .int .i64 a.qty]) (.agg #[.int .i64 b.id, .int .i64 b.acc, .int .i64 b.side, .int .i64 b.price, .int .i64 b.qty])).run Try.prog w = .ok (.bool (!sameOd a b)) w := by
  rw [run_neq_struct, eqIn_od]; rfl
theorem run_eql_od (a b : Od) (w : World) : (binOp .eql 71 (.agg #[.int .i64 a.id, .int .i64 a.acc, .int .i64 a.side, .int .i64 a.price, .int .i64 a.qty]) (.agg #[.int .i64 b.id, .int .i64 b.acc, .int .i64 b.side, .int .i64 b.price, .int .i64 b.qty])).run Try.prog w = .ok (.bool (sameOd a b)) w := by
  rw [run_eql_struct, eqIn_od]; rfl

instance : DecidableEq Od := fun _ _ => decidable_of_iff _ sameOd_iff
def sameOds (L M : List Od) : Bool := decide (L = M)
theorem sameOds_len {L M : List Od} (h : L.length ≠ M.length) : sameOds L M = false := by
  unfold sameOds; exact decide_eq_false fun e => h (by rw [e])
theorem sameOds_at {L M : List Od} {j : Nat} {x y : Od} (hx : L[j]? = some x) (hy : M[j]? = some y) (h : sameOd x y = false) : sameOds L M = false := by
  unfold sameOds
  refine decide_eq_false fun e => ?_
  subst e
  rw [hx] at hy; injection hy with hy
  rw [sameOd_iff.2 hy] at h; cases h
theorem take_nextO {L M : List Od} {j : Nat} {x y : Od} (hx : L[j]? = some x) (hy : M[j]? = some y) (h : sameOd x y = true) (ht : L.take j = M.take j) : L.take (j + 1) = M.take (j + 1) := by
  rw [List.take_add_one, List.take_add_one, hx, hy, ht, sameOd_iff.1 h]

set_option maxHeartbeats 1000000 in
theorem equal_ods (A A' : Option Addr) (n c n' c' : Nat) (L M : List Od) (B : Nat) (w : World) (h : Rd w B 5 A n c (odCells L)) (h' : Rd w B 5 A' n' c' (odCells M)) (hB : B ≤ w.heap.size) :
    Calls Try.prog 141 #[.slice A n c, .slice A' n' c'] w fun e w' => e = .returned (.bool (sameOds L M)) ∧ Below w.heap.size w w' := by
  have hle := h.le
  have hcap := h.cap
  have hle' := h'.le
  have hcap' := h'.cap
  have HL := Lib.hid (rdo_len h)
  have HM := Lib.hid (rdo_len h')
  have q := run_neq_od
  unfold maxLen at hcap hcap'
  by_cases hnn : n = n'
  · subst hnn
    go_enter Try.func141, Try.ntmps141
    go_wp2_with fail
    go_loopw [13] (fun i wr => ∃ j : Nat, j ≤ n ∧ i = .int .i64 j ∧ Below w.heap.size w wr ∧ Hid (L.take j = M.take j)) (fun i _ => n - (intOf i).toNat)
    case atStart => exact ⟨0, Nat.zero_le _, rfl, Below.refl _ _, Lib.hid (by simp)⟩
    case round =>
      obtain ⟨j, hj, rfl, hbr, HP⟩ := hrel
      have hws := hbr.size
      by_cases hlt : j < n
      · obtain ⟨b, o, x, rfl, hb, hx, k0, k1, k2, k3, k4⟩ := od_at (h.below (hbr.mono hB)) hlt
        obtain ⟨b', o', y, rfl, hb', hy, l0, l1, l2, l3, l4⟩ := od_at (h'.below (hbr.mono hB)) hlt
        have HX := Lib.hid hx
        have HY := Lib.hid hy
        clear hx hy
        go_wp2_with fail
        go_region
        rcases bool_cs (sameOd x y) with hp | hp
        · have HN := Lib.hid (sameOds_at HX.out HY.out hp)
          rw [hp]
          go_wp2_with fail
          go_ret
          exact ⟨ret_bb HN.out.symm, (by first | exact below_drew hbr | exact below_drewN hbr _)⟩
        · have HN := Lib.hid (take_nextO HX.out HY.out hp HP.out)
          rw [hp]
          go_wp2_with fail
          go_roundw
          case rel => exact ⟨j + 1, by omega, by go_num, (by first | exact below_drew hbr | exact below_drewN hbr _), HN⟩
          case measure => simp [intOf]; omega
      · have hjn : j = n := by omega
        have HE := Lib.hid (show sameOds L M = true by
          have := HP.out
          rw [hjn, List.take_of_length_le (by rw [HL.out]; exact Nat.le_refl _), List.take_of_length_le (by rw [HM.out]; exact Nat.le_refl _)] at this
          exact decide_eq_true this)
        clear hjn
        go_wp2_with fail
        go_ret
        exact ⟨ret_bb HE.out.symm, hbr⟩
  · have HE := Lib.hid (sameOds_len (L := L) (M := M) (by rw [HL.out, HM.out]; exact hnn))
    go_enter Try.func141, Try.ntmps141
    go_wp2_with fail
    go_ret
    exact ⟨ret_bb HE.out.symm, Below.refl _ _⟩
end Go.Proofs.Ytockodmbhnlheaa
