/-
  THE WALKS over package slices at []int: Equal, Clone, Reverse.
-/
import Derived.Test.YtockodmbhnlheaaProg
import Derived.Test.YtockodmbhnlheaaMem
import Derived.Test.YtockodmbhnlheaaApp
import Derived.WalkKit
import Derived.WalkSpells
import Derived.WalkLawsBesides
import Derived.Deep.QuietTactic
import Derived.BigQuiet
import Derived.Lib.Hide
namespace Go.Proofs.Ytockodmbhnlheaa
open Go.RowKit

def eqI (xs ys : List Int) : Bool := decide (xs = ys)
theorem eqI_iff {xs ys : List Int} : eqI xs ys = true ↔ xs = ys := by simp [eqI]
theorem eqI_len {xs ys : List Int} (h : xs.length ≠ ys.length) : eqI xs ys = false := by simp [eqI]; rintro rfl; exact h rfl
theorem eqI_at {xs ys : List Int} {j : Nat} {a b : Int} (ha : xs[j]? = some a) (hb : ys[j]? = some b) (h : a ≠ b) : eqI xs ys = false := by
  simp [eqI]; rintro rfl; rw [ha] at hb; exact h (Option.some.inj hb)
theorem eqI_of {xs ys : List Int} (hl : xs.length = ys.length) (h : xs.take xs.length = ys.take xs.length) : eqI xs ys = true := by
  rw [eqI_iff]; rwa [List.take_length, hl, List.take_length] at h
theorem take_next {xs ys : List Int} {j : Nat} {a b : Int} (ha : xs[j]? = some a) (hb : ys[j]? = some b) (h : a = b) (ht : xs.take j = ys.take j) : xs.take (j + 1) = ys.take (j + 1) := by
  rw [List.take_add_one, List.take_add_one, ht, ha, hb, h]

set_option maxHeartbeats 1000000 in
theorem equal_ints (A A' : Option Addr) (n c n' c' : Nat) (xs ys : List Int) (B B' : Nat) (w : World) (h : Rd w B 1 A n c (ints xs)) (h' : Rd w B' 1 A' n' c' (ints ys)) :
    Calls Try.prog 30 #[.slice A n c, .slice A' n' c'] w fun e w' => e = .returned (.bool (eqI xs ys)) ∧ ∃ q, w' = w.drewN q := by
  have hcap := h.cap
  have hle := h.le
  have hl := h.ofInts
  have hl' := h'.ofInts
  unfold maxLen at hcap
  by_cases hn : n = n'
  · subst hn
    have HL := Lib.hid hl
    have HL' := Lib.hid hl'
    clear hl hl'
    go_enter Try.func30, Try.ntmps30
    go_wp2_with fail
    go_loopw [13] (fun i wr => ∃ (j q : Nat), j ≤ n ∧ i = .int .i64 j ∧ wr = w.drewN q ∧ Hid (xs.take j = ys.take j)) (fun i _ => n - (intOf i).toNat)
    case atStart => exact ⟨0, 0, Nat.zero_le _, rfl, rfl, rfl⟩
    case round =>
      obtain ⟨j, q, hj, rfl, rfl, HT⟩ := hrel
      by_cases hlt : j < n
      · obtain ⟨b, o, rfl, _, z, hz, hc⟩ := h.int hlt
        obtain ⟨b', o', rfl, _, z', hz', hc'⟩ := h'.int hlt
        have hb0 : (0 : Int) ≤ (j : Int) := by omega
        have hb1 : (j : Int) < (n : Int) := by omega
        by_cases hzz : z = z'
        · have HN := Lib.hid (take_next hz hz' hzz HT.out)
          subst hzz
          clear hz hz'
          go_wp2_with fail
          go_quiet (fail)
          go_wp2_with fail
          go_roundw
          case rel => exact ⟨j + 1, _, by omega, by go_num, rfl, HN⟩
          case measure => simp [intOf]; omega
        · have HN := Lib.hid (eqI_at hz hz' hzz)
          clear hz hz'
          have hne : (z != z') = true := by simpa using hzz
          go_wp2_with fail
          go_quiet (fail)
          go_wp2_with fail
          go_ret
          exact ⟨ret_bb (by rw [HN.out]), _, World.drewN_drewN _ _ _⟩
      · have HE := Lib.hid (eqI_of (xs := xs) (ys := ys) (by rw [HL.out, HL'.out]) (by rw [HL.out, ← (show j = n by omega)]; exact HT.out))
        go_wp2_with fail
        go_ret
        exact ⟨ret_bb (by rw [HE.out]), _, rfl⟩
  · have HE := Lib.hid (eqI_len (xs := xs) (ys := ys) (by omega))
    have hne : ((n : Int) != (n' : Int)) = true := by simp; omega
    clear hl hl'
    go_enter Try.func30, Try.ntmps30
    go_wp2_with fail
    go_ret
    exact ⟨ret_bb (by rw [HE.out]), 0, rfl⟩

/-- what a function that hands back a row of its own ends in. -/
def RetRow (w : World) (e k n : Nat) (xs : List Value) (en : Ending) (w' : World) : Prop := ∃ v, en = .returned v ∧ w'.ownsRow w.heap.size e k v n xs ∧ Below w.heap.size w w'

set_option maxHeartbeats 400000 in
theorem clone_ints (A : Option Addr) (n c : Nat) (xs : List Value) (B : Nat) (w : World) (h : Rd w B 1 A n c xs) (h1 : ∀ u ∈ xs, u.oneCell' = true) (hB : B ≤ w.heap.size) (hb : n * 8 ≤ 140737488355328) :
    Calls Try.prog 36 #[.slice A n c] w (RetRow w 3 1 n xs) := by
  have q : ∀ (w : World) (a : Option Addr) (n c n' c' : Nat), (binOp .eql 24 (.slice a n c) (.slice none n' c')).run Try.prog w = .ok (.bool a.isNone) w := fun w a n c n' c' => Lib.run_eql_slice_nil w _ _ a n c n' c' Try.underlying24
  cases A with
  | none =>
    have h0 := h.nil rfl
    have hle := h.le
    obtain rfl : n = 0 := by omega
    have hx : xs = [] := List.eq_nil_of_length_eq_zero (by simpa using h.len)
    subst hx h0
    go_enter Try.func36, Try.ntmps36
    go_wp2_with fail
    go_ret
    exact ⟨_, rfl, World.ownsRow_nil _ _ _ _, Below.refl _ _⟩
  | some ad =>
    have HR := Lib.hid h
    have hle := h.le
    have hcap := h.cap
    clear h
    go_enter Try.func36, Try.ntmps36
    go_wp2_with (at_builtin; go_loud (refine wpList_app rfl _ _ _ rfl w.heap.size _ _ _ elem_int _ _ _ rfl (World.ownsRow_made w #[] 0 (Nat.le_refl _) (Nat.zero_le _) rfl) B (some ad) n c xs rfl (HR.out.alloc hB _) h1 (by simp only [maxLen] at hcap ⊢; omega) (by omega) (by simp) ?_); intro v' w' hown hbel hg _)
    go_ret
    exact ⟨_, rfl, by simpa using hown, ((Below.refl _ _).alloc (Nat.le_refl _) _).trans hbel⟩

end Go.Proofs.Ytockodmbhnlheaa
