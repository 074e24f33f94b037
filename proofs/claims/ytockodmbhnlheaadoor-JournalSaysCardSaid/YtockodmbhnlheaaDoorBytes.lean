/-
  BYTES: a slice of bytes that reads as a list of bytes; a string turned into bytes, bytes turned into a string; slices.Index, slices.Contains at bytes.
-/
import Derived.Test.YtockodmbhnlheaaDoorTextEnv
import Derived.Test.YtockodmbhnlheaaDoorApp
import Derived.IntWalk
import Derived.WalkSpells
import Derived.WalkLawsBesides
import Derived.Deep.QuietTactic
import Derived.BigQuiet
import Derived.RegionTactic
import Derived.LoopTactic
import Derived.Lib.ConvBytes
import Derived.Lib.AtoiErrMem
import Derived.Lib.AppendStr
import Derived.Laws.BytesArg
namespace Go.Proofs.YtockodmbhnlheaaDoor
open Go.RowKit

/-- bytes as values. -/
def u8s (l : List UInt8) : List Value := l.map fun b => Value.int .u8 b.toNat
theorem u8s_len (l : List UInt8) : (u8s l).length = l.length := by simp [u8s]
theorem u8s_app (l m : List UInt8) : u8s (l ++ m) = u8s l ++ u8s m := by simp [u8s]
theorem u8s_one (l : List UInt8) : ∀ u ∈ u8s l, u.oneCell' = true := by
  intro u hu
  simp only [u8s, List.mem_map] at hu
  obtain ⟨b, _, rfl⟩ := hu; rfl
theorem u8s_str (l : List UInt8) : Lib.strCells (bs l) = u8s l := by simp [Lib.strCells, u8s, bs]
theorem u8s_at {l : List UInt8} {j : Nat} {x : UInt8} (h : l[j]? = some x) : (u8s l)[j]? = some (.int .u8 x.toNat) := by simp [u8s, h]
theorem Rd.ofU8 {w : World} {B n c : Nat} {A : Option Addr} {l : List UInt8} (h : Rd w B 1 A n c (u8s l)) : l.length = n := by have := h.len; simpa [u8s] using this
theorem Rd.u8 {w : World} {B n c : Nat} {A : Option Addr} {l : List UInt8} (h : Rd w B 1 A n c (u8s l)) {j : Nat} (hj : j < n) : ∃ b o, A = some ⟨b, o, none⟩ ∧ b < B ∧ ∃ z, l[j]? = some z ∧ w.cell? ⟨b, o + j, none⟩ = some (.int .u8 (z.toNat : Int)) := by
  have hl := h.ofU8
  have hz : l[j]? = some l[j] := List.getElem?_eq_getElem (by omega)
  obtain ⟨b, o, e, hb, hc⟩ := h.one (u8s_at hz)
  exact ⟨b, o, e, hb, _, hz, hc⟩

set_option maxRecDepth 100000 in
/-- a slice of bytes as a string. -/
theorem str_of_bytes {w : World} {B n c : Nat} {A : Option Addr} {l : List UInt8} (h : Rd w B 1 A n c (u8s l)) : (convert 33 9 (.slice A n c)).run Tryd.prog w = .ok (.string (bs l)) w := by
  have hl := h.ofU8
  by_cases hn : 0 < n
  · obtain ⟨b, o, rfl, hb, hc⟩ := h.at_ hn
    have := run_convert_bytes_arg (P := Tryd.prog) w 33 5 (by kernel_rfl) (by kernel_rfl) b o n c (l.map fun b => (b.toNat : Int)) (by simpa using hl) (fun i hi => by
      have hz : l[i]? = some l[i] := List.getElem?_eq_getElem (by omega)
      rw [hc i _ (u8s_at hz)]
      simp [List.getD, hz]) 9 (by kernel_rfl)
    rw [this]
    congr 2
    simp only [strOfNums, bs]
    congr 2
    rw [List.map_map]
    conv => rhs; rw [← List.map_id l]
    apply List.map_congr_left
    intro x _
    simp
  · have h0 : n = 0 := by omega
    subst h0
    have : l = [] := List.eq_nil_of_length_eq_zero hl
    subst this
    cases A with
    | none => exact run_convert_bytes_nil (P := Tryd.prog) w 33 5 (by kernel_rfl) (by kernel_rfl) 0 c 9 (by kernel_rfl)
    | some ad =>
      rw [run_convert_bytes_string w 33 9 5 (some ad) 0 c (by kernel_rfl) (by kernel_rfl) (by kernel_rfl)]
      have hl0 : (loadCells ad 0).run Tryd.prog w = .ok (([] : List Int).map (Value.int .u8)).toArray w := by
        have := run_loadCells_list (P := Tryd.prog) w ad [] (fun j v hj => by simp at hj)
        simpa using this
      exact run_bytesToString (P := Tryd.prog) w ad 0 c [] hl0
set_option maxRecDepth 100000 in
/-- a string as bytes: a row of its own. -/
theorem bytes_of_str (l : List UInt8) (hl : l.length ≤ 140737488355328) (w : World) : ∃ c W, (convert 9 33 (.string (bs l))).run Tryd.prog w = .ok (.slice (some ⟨w.heap.size, 0, none⟩) l.length c) W ∧
    Rd W (w.heap.size + 1) 1 (some ⟨w.heap.size, 0, none⟩) l.length c (u8s l) ∧ Below w.heap.size w W ∧ W.heap.size = w.heap.size + 1 := by
  have hr := Lib.run_convert_string_bytes (P := Tryd.prog) w 9 33 5 (bs l) (u := .string) (by kernel_rfl) (by kernel_rfl) (by kernel_rfl)
  rw [bs_size] at hr
  refine ⟨_, _, hr, ⟨by simp [u8s], grownCap_ge w _ 0 _, grownCap_le_maxLen w _ 0 _ (by unfold maxLen; omega), nofun, fun _ => ⟨_, _, rfl, by omega, ?_⟩⟩, Lib.bytesWorld_below _ _ _, Lib.bytesWorld_size _ _ _⟩
  intro j u hu
  have hj : j < l.length := by
    have := (List.getElem?_eq_some_iff.1 hu).1
    simpa [u8s] using this
  have hz : l[j]? = some l[j] := List.getElem?_eq_getElem hj
  rw [u8s_at hz] at hu
  injection hu with hu
  rw [Nat.zero_add, Lib.bytesWorld_cell _ _ _ _ (by rw [bs_size]; exact hj), bs_data, ← hu]
  simp [List.getD, hz]

def anyU (v : Int) (L : List UInt8) : Bool := L.any fun x => v == (x.toNat : Int)
theorem anyU_next {v : Int} {L : List UInt8} {j : Nat} {x : UInt8} (hx : L[j]? = some x) (hp : (v == (x.toNat : Int)) = false) (hb : anyU v (L.take j) = false) : anyU v (L.take (j + 1)) = false := by
  unfold anyU at *
  rw [List.take_add_one, hx]
  simp only [Option.toList, List.any_append, hb, List.any_cons, List.any_nil, hp]; rfl
theorem anyU_found {v : Int} {L : List UInt8} {j : Nat} {x : UInt8} (hx : L[j]? = some x) (hp : (v == (x.toNat : Int)) = true) : anyU v L = true := by
  unfold anyU
  rw [List.any_eq_true]; exact ⟨x, List.mem_of_getElem? hx, hp⟩
theorem anyU_iff (b : UInt8) (L : List UInt8) : anyU (b.toNat : Int) L = decide (b ∈ L) := by
  unfold anyU
  rw [Bool.eq_iff_iff, List.any_eq_true, decide_eq_true_iff]
  constructor
  · rintro ⟨x, hx, e⟩
    have e1 : (b.toNat : Int) = (x.toNat : Int) := by simpa using e
    rw [show b = x from UInt8.toNat_inj.1 (by omega)]; exact hx
  · intro hv; exact ⟨b, hv, by simp⟩
theorem bool_csU (b : Bool) : b = true ∨ b = false := by cases b <;> simp
set_option maxHeartbeats 1000000 in
theorem index_u8 (v : Int) (A : Option Addr) (n c : Nat) (L : List UInt8) (B : Nat) (w : World) (h : Rd w B 1 A n c (u8s L)) :
    Calls Tryd.prog 36 #[.slice A n c, .int .u8 v] w fun e w' => (∃ j : Int, e = .returned (.int .i64 j) ∧ decide (0 ≤ j) = anyU v L) ∧ w = w' := by
  have hle := h.le
  have hcap := h.cap
  have HL := Lib.hid h.ofU8
  unfold maxLen at hcap
  go_enter Tryd.func36, Tryd.ntmps36
  go_wp2_with fail
  go_loopw [8] (fun i wr => ∃ j : Nat, j ≤ n ∧ i = .int .i64 j ∧ w = wr ∧ Hid (anyU v (L.take j) = false)) (fun i _ => n - (intOf i).toNat)
  case atStart => exact ⟨0, Nat.zero_le _, rfl, rfl, rfl⟩
  case round =>
    obtain ⟨j, hj, rfl, rfl, HP⟩ := hrel
    by_cases hlt : j < n
    · obtain ⟨b, o', rfl, hb, x, hx, k0⟩ := h.u8 hlt
      have HX := Lib.hid hx
      clear hx
      rcases bool_csU (v == (x.toNat : Int)) with hp | hp
      · have HE := Lib.hid (anyU_found HX.out hp)
        go_wp2_with fail
        go_ret
        exact ⟨⟨_, rfl, by rw [HE.out]; simp⟩, rfl⟩
      · have HN := Lib.hid (anyU_next HX.out hp HP.out)
        go_wp2_with fail
        go_roundw
        case rel => exact ⟨j + 1, by omega, by go_num, trivial, HN⟩
        case measure => simp [intOf]; omega
    · have hjn : j = n := by omega
      have HE := Lib.hid (show anyU v L = false by have := HP.out; rw [hjn, List.take_of_length_le (by rw [HL.out]; exact Nat.le_refl _)] at this; exact this)
      clear hjn
      go_wp2_with fail
      go_ret
      exact ⟨⟨_, rfl, by rw [HE.out]; rfl⟩, rfl⟩
set_option maxHeartbeats 400000 in
theorem contains_u8 (v : Int) (A : Option Addr) (n c : Nat) (L : List UInt8) (B : Nat) (w : World) (h : Rd w B 1 A n c (u8s L)) :
    Calls Tryd.prog 10 #[.slice A n c, .int .u8 v] w fun e w' => e = .returned (.bool (anyU v L)) ∧ w = w' := by
  go_enter Tryd.func10, Tryd.ntmps10
  go_wp2_with fail
  refine (index_u8 v A n c L B _ h).mono ?_
  rintro e w1 ⟨⟨j, rfl, hj⟩, rfl⟩
  have HJ := Lib.hid hj
  go_wp2_with fail
  go_ret
  exact ⟨ret_bb (by first | exact HJ.out | rfl), rfl⟩
end Go.Proofs.YtockodmbhnlheaaDoor
