/-
  slices.Equal, Clone, Grow at nil, Concat of two slices: at bytes.
-/
import Derived.Test.YtockodmbhnlheaaDoorBytes
import Derived.Lib.AppendZeros
import Derived.Deep.RegionLaw
namespace Go.Proofs.YtockodmbhnlheaaDoor
open Go.RowKit

def eqU (xs ys : List UInt8) : Bool := decide (xs = ys)
theorem eqU_iff {xs ys : List UInt8} : eqU xs ys = true ↔ xs = ys := by simp [eqU]
theorem eqU_len {xs ys : List UInt8} (h : xs.length ≠ ys.length) : eqU xs ys = false := by simp [eqU]; rintro rfl; exact h rfl
theorem eqU_at {xs ys : List UInt8} {j : Nat} {a b : UInt8} (ha : xs[j]? = some a) (hb : ys[j]? = some b) (h : (a.toNat : Int) ≠ b.toNat) : eqU xs ys = false := by
  simp [eqU]; rintro rfl; rw [ha] at hb; exact h (by rw [Option.some.inj hb])
theorem eqU_of {xs ys : List UInt8} (hl : xs.length = ys.length) (h : xs.take xs.length = ys.take xs.length) : eqU xs ys = true := by
  rw [eqU_iff]; rwa [List.take_length, hl, List.take_length] at h
theorem take_nextU {xs ys : List UInt8} {j : Nat} {a b : UInt8} (ha : xs[j]? = some a) (hb : ys[j]? = some b) (h : (a.toNat : Int) = b.toNat) (ht : xs.take j = ys.take j) : xs.take (j + 1) = ys.take (j + 1) := by
  rw [List.take_add_one, List.take_add_one, ht, ha, hb, UInt8.toNat_inj.1 (by omega : a.toNat = b.toNat)]

set_option maxHeartbeats 1000000 in
theorem equal_u8 (A A' : Option Addr) (n c n' c' : Nat) (xs ys : List UInt8) (B B' : Nat) (w : World) (h : Rd w B 1 A n c (u8s xs)) (h' : Rd w B' 1 A' n' c' (u8s ys)) :
    Calls Tryd.prog 37 #[.slice A n c, .slice A' n' c'] w fun e w' => e = .returned (.bool (eqU xs ys)) ∧ ∃ q, w' = w.drewN q := by
  have hcap := h.cap
  have hle := h.le
  have hl := h.ofU8
  have hl' := h'.ofU8
  unfold maxLen at hcap
  by_cases hn : n = n'
  · subst hn
    have HL := Lib.hid hl
    have HL' := Lib.hid hl'
    clear hl hl'
    go_enter Tryd.func37, Tryd.ntmps37
    go_wp2_with fail
    go_loopw [13] (fun i wr => ∃ (j q : Nat), j ≤ n ∧ i = .int .i64 j ∧ wr = w.drewN q ∧ Hid (xs.take j = ys.take j)) (fun i _ => n - (intOf i).toNat)
    case atStart => exact ⟨0, 0, Nat.zero_le _, rfl, rfl, rfl⟩
    case round =>
      obtain ⟨j, q, hj, rfl, rfl, HT⟩ := hrel
      by_cases hlt : j < n
      · obtain ⟨b, o, rfl, _, z, hz, hc⟩ := h.u8 hlt
        obtain ⟨b', o', rfl, _, z', hz', hc'⟩ := h'.u8 hlt
        have hb0 : (0 : Int) ≤ (j : Int) := by omega
        have hb1 : (j : Int) < (n : Int) := by omega
        by_cases hzz : (z.toNat : Int) = z'.toNat
        · have HN := Lib.hid (take_nextU hz hz' hzz HT.out)
          rw [← hzz] at hc'
          clear hz hz' hzz
          generalize (z.toNat : Int) = zz at hc hc'
          go_wp2_with fail
          go_quiet (fail)
          go_wp2_with fail
          go_roundw
          case rel => exact ⟨j + 1, _, by omega, by go_num, rfl, HN⟩
          case measure => simp [intOf]; omega
        · have HN := Lib.hid (eqU_at hz hz' hzz)
          clear hz hz'
          generalize (z.toNat : Int) = zz at hc hzz
          generalize (z'.toNat : Int) = zz' at hc' hzz
          have hne : (zz != zz') = true := by simpa using hzz
          go_wp2_with fail
          go_quiet (fail)
          go_wp2_with fail
          go_ret
          exact ⟨ret_bb (by rw [HN.out]), _, World.drewN_drewN _ _ _⟩
      · have HE := Lib.hid (eqU_of (xs := xs) (ys := ys) (by rw [HL.out, HL'.out]) (by rw [HL.out, ← (show j = n by omega)]; exact HT.out))
        go_wp2_with fail
        go_ret
        exact ⟨ret_bb (by rw [HE.out]), _, rfl⟩
  · have HE := Lib.hid (eqU_len (xs := xs) (ys := ys) (by omega))
    have hne : ((n : Int) != (n' : Int)) = true := by simp; omega
    clear hl hl'
    go_enter Tryd.func37, Tryd.ntmps37
    go_wp2_with fail
    go_ret
    exact ⟨ret_bb (by rw [HE.out]), 0, rfl⟩

theorem elem_u8 : Elem Tryd.prog 33 5 1 1 := elem_mk Tryd.underlying33 (by kernel_rfl) (by decide)
/-- a row of the call's own handed back; nothing else has turned. -/
def RetB (w : World) (n : Nat) (xs : List UInt8) (e : Ending) (w' : World) : Prop :=
  ∃ v, e = .returned v ∧ w'.ownsRow w.heap.size 5 1 v n (u8s xs) ∧ Below w.heap.size w w'
set_option maxHeartbeats 400000 in
theorem clone_u8 (A : Option Addr) (n c : Nat) (xs : List UInt8) (B : Nat) (w : World) (h : Rd w B 1 A n c (u8s xs)) (hB : B ≤ w.heap.size) (hb : n ≤ 140737488355328) :
    Calls Tryd.prog 23 #[.slice A n c] w (RetB w n xs) := by
  have q : ∀ (w : World) (a : Option Addr) (n c n' c' : Nat), (binOp .eql 33 (.slice a n c) (.slice none n' c')).run Tryd.prog w = .ok (.bool a.isNone) w := fun w a n c n' c' => Lib.run_eql_slice_nil w _ _ a n c n' c' Tryd.underlying33
  cases A with
  | none =>
    have h0 := h.nil rfl
    have hle := h.le
    obtain rfl : n = 0 := by omega
    have hx : xs = [] := List.eq_nil_of_length_eq_zero h.ofU8
    subst hx h0
    go_enter Tryd.func23, Tryd.ntmps23
    go_wp2_with fail
    go_ret
    exact ⟨_, rfl, World.ownsRow_nil _ _ _ _, Below.refl _ _⟩
  | some ad =>
    have HR := Lib.hid h
    have hle := h.le
    have hcap := h.cap
    clear h
    go_enter Tryd.func23, Tryd.ntmps23
    go_wp2_with (at_builtin; refine wpList_app rfl _ _ _ rfl w.heap.size _ _ _ elem_u8 _ _ _ rfl (World.ownsRow_made w #[] 0 (Nat.le_refl _) (Nat.zero_le _) rfl) B (some ad) n c (u8s xs) rfl (HR.out.alloc hB _) (u8s_one _) (by simp only [maxLen] at hcap ⊢; omega) (by omega) (by simp) ?_; intro v' w' hown hbel hg _)
    go_ret
    exact ⟨_, rfl, by simpa using hown, ((Below.refl _ _).alloc (Nat.le_refl _) _).trans hbel⟩
theorem app_zerosU {P : Program} {t e tn k bytes : Nat} {kn : IntKind} (E : Elem P t e k bytes) (htn : P.underlying tn = some (.int kn)) (w : World) (n : Nat) (h0 : 0 < n) (h48 : n * bytes ≤ 140737488355328) (hn : n ≤ maxLen) :
    ∃ c cur, (∀ ty, (Builtin.append_ #[t, tn] ty #[.slice none 0 0, .int .i64 n]).run P w = .ok (.slice (some ⟨w.heap.size, 0, none⟩) n c) (w.drew.alloc (.cells cur e))) ∧ n ≤ c ∧ c ≤ maxLen ∧ cur.size = c * k := by
  obtain ⟨i, z, hi, hz, hk, hb, hzk⟩ := E.hi
  have hr := fun ty => Lib.run_append_nil_zeros (P := P) w t tn ty e i z .i64 kn E.ht htn hi hz n h0 (by rw [hk]; exact E.pos) (by unfold maxLen at hn; omega) (by rw [hb]; omega)
  refine ⟨_, _, hr, grownCap_ge _ _ _ _, grownCap_le_maxLen _ _ _ _ hn, ?_⟩
  have := grownCap_ge w n 0 e
  simp only [Array.size_append, size_zeroCells, hzk, ← Nat.add_mul]
  rw [Nat.add_sub_cancel' this]
set_option maxHeartbeats 400000 in
set_option maxRecDepth 100000 in
theorem grow_u8 (n : Nat) (hn : n ≤ 140737488355328) (w : World) :
    Calls Tryd.prog 47 #[.slice none 0 0, .int .i64 n] w (RetB w 0 []) := by
  have hm : n ≤ maxLen := by simp only [maxLen]; omega
  by_cases h0 : n = 0
  · subst h0
    go_enter Tryd.func47, Tryd.ntmps47
    go_wp2_with fail
    go_ret
    exact ⟨_, rfl, World.ownsRow_nil _ _ _ _, Below.refl _ _⟩
  · obtain ⟨c, cur, hr, hc1, hc2, hc3⟩ := app_zerosU (P := Tryd.prog) elem_u8 Tryd.underlying3 w n (by omega) (by omega) hm
    have HR := Lib.hid hr
    clear hr
    go_enter Tryd.func47, Tryd.ntmps47
    go_wp2_with (at_builtin; refine Lib.wpList_append_run _ rfl _ _ _ _ rfl _ _ rfl rfl _ _ (HR.out _) ?_)
    go_ret
    exact ⟨_, rfl, World.ownsRow_made _ _ _ (Nat.le_refl _) hc2 hc3, (below_drewN (Below.refl _ _) 1).alloc (Nat.le_refl _) _⟩
set_option maxHeartbeats 2000000 in
set_option maxRecDepth 100000 in
theorem concat_u8 (A A' : Option Addr) (n c n' c' : Nat) (L M : List UInt8) (B : Nat) (w : World) (h : Rd w B 1 A n c (u8s L)) (h' : Rd w B 1 A' n' c' (u8s M)) (hB : B ≤ w.heap.size)
    (g : Nat) (hg : g < w.heap.size) (c0 : w.cell? ⟨g, 0, none⟩ = some (.slice A n c)) (c1 : w.cell? ⟨g, 1, none⟩ = some (.slice A' n' c')) (hb : n + n' ≤ 140737488355328) :
    Calls Tryd.prog 24 #[.slice (some ⟨g, 0, none⟩) 2 2] w (RetB w (n + n') (L ++ M)) := by
  have HR := Lib.hid h
  have HR' := Lib.hid h'
  have hm : n + n' ≤ maxLen := by simp only [maxLen]; omega
  have HM := Lib.hid hm
  clear h h' hm
  go_enter Tryd.func24, Tryd.ntmps24
  go_wp2_with fail
  go_loopw [11, 3] (fun i s wr => w = wr ∧ (i = .int .i64 0 ∧ s = .int .i64 0 ∨ i = .int .i64 1 ∧ s = .int .i64 n ∨ i = .int .i64 2 ∧ s = .int .i64 (n + n' : Nat))) (fun i _ _ => 2 - (intOf i).toNat)
  case atStart => exact ⟨rfl, .inl ⟨rfl, rfl⟩⟩
  case round =>
    obtain ⟨rfl, ⟨rfl, rfl⟩ | ⟨rfl, rfl⟩ | ⟨rfl, rfl⟩⟩ := hrel
    · go_wp2_with fail
      go_roundw
      case rel => exact ⟨(by first | rfl | trivial), .inr (.inl ⟨rfl, by go_num⟩)⟩
      case measure => simp [intOf]
    · go_wp2_with fail
      go_roundw
      case rel => exact ⟨(by first | rfl | trivial), .inr (.inr ⟨rfl, by go_num⟩)⟩
      case measure => simp [intOf]
    · go_wp2_with fail
      refine (grow_u8 (n + n') hb _).mono ?_
      rintro e w1 ⟨v, rfl, hown, hbl⟩
      have HO := Lib.hid hown
      clear hown
      go_wp2_with fail
      go_loopw [27, 6] (fun i v wr => Below w.heap.size w wr ∧ (i = .int .i64 0 ∧ Hid (wr.ownsRow w.heap.size 5 1 v 0 []) ∨ i = .int .i64 1 ∧ Hid (wr.ownsRow w.heap.size 5 1 v n (u8s L)) ∨ i = .int .i64 2 ∧ Hid (wr.ownsRow w.heap.size 5 1 v (n + n') (u8s (L ++ M))))) (fun i _ _ => 2 - (intOf i).toNat)
      case atStart => exact ⟨hbl, .inl ⟨rfl, HO⟩⟩
      case round =>
        obtain ⟨hbr, ⟨rfl, HV⟩ | ⟨rfl, HV⟩ | ⟨rfl, HV⟩⟩ := hrel
        · have d0 := (hbr.cell (p := ⟨g, 0, none⟩) hg).trans c0
          go_wp2_with (at_builtin; refine wpList_app rfl _ _ _ rfl w.heap.size _ _ _ elem_u8 _ _ _ rfl HV.out B A n c (u8s L) rfl (HR.out.below (hbr.mono hB)) (u8s_one _) (by have := HM.out; omega) (by omega) hbr.size ?_; intro v' w' hown' hbel' _ _)
          have HO' := Lib.hid (by simpa using hown')
          go_roundw
          case rel => exact ⟨hbr.trans hbel', .inr (.inl ⟨rfl, HO'⟩)⟩
          case measure => simp [intOf]
        · have d0 := (hbr.cell (p := ⟨g, 1, none⟩) hg).trans c1
          go_wp2_with (at_builtin; refine wpList_app rfl _ _ _ rfl w.heap.size _ _ _ elem_u8 _ _ _ rfl HV.out B A' n' c' (u8s M) rfl (HR'.out.below (hbr.mono hB)) (u8s_one _) (by have := HM.out; omega) (by omega) hbr.size ?_; intro v' w' hown' hbel' _ _)
          rw [← u8s_app] at hown'
          have HO' := Lib.hid hown'
          go_roundw
          case rel => exact ⟨hbr.trans hbel', .inr (.inr ⟨rfl, HO'⟩)⟩
          case measure => simp [intOf]
        · go_wp2_with fail
          go_ret
          exact ⟨_, rfl, HV.out, hbr⟩
end Go.Proofs.YtockodmbhnlheaaDoor
