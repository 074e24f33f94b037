/-
  THE LIBRARY, as the document's readers want it: Fields at the two word lists, Index at strings, ParseInt and FormatInt.
-/
import Derived.Test.YtockodmbhnlheaaDoorTextCheck
import Derived.Test.YtockodmbhnlheaaDoorShelfU
namespace Go.Proofs.YtockodmbhnlheaaDoor
open Go.RowKit

/-- what the library's variables hold, Fields' table with them. -/
structure EnvF (w : World) : Prop where
  env : Env w
  spc : ∃ t fr, w.heap[0]? = some (.cells (Lib.asciiSpaceTab.map fun z => Value.int .u8 z).toArray t fr)
theorem EnvF.below {w w' : World} {B : Nat} (h : EnvF w) (hb : Below B w w') (hB : 8 ≤ B) : EnvF w' := by
  obtain ⟨t, fr, hp⟩ := h.spc
  exact ⟨h.env.below hb hB, t, fr, (hb.block _ (by omega)).trans hp⟩
theorem EnvF.next {w w' : World} (h : EnvF w) (hb : Below w.heap.size w w') : EnvF w' := h.below hb h.env.low
theorem EnvF.tab {w : World} (h : EnvF w) {nm : String} (hn : Tryd.prog.globalNamed nm = some 0) : Lib.TabIs Tryd.prog w nm .u8 Lib.asciiSpaceTab := by
  obtain ⟨t, fr, hp⟩ := h.spc
  unfold Lib.TabIs World.var?
  rw [hn]
  simp only [Option.bind_some, hp]
def verbsL : List (List UInt8) := [[45], wDeposit, wWithdraw, wPlace, wCancel, wIndex, wFund, wSweep]
def sortsL : List (List UInt8) := [[45], wLimit, wNow, wWhole, wPost]
theorem fields_verbs : Lib.fields (Lib.join verbsL [32]) = verbsL := by kernel_rfl
theorem fields_sorts : Lib.fields (Lib.join sortsL [32]) = sortsL := by kernel_rfl
theorem ascii_verbs : ∀ b ∈ Lib.join verbsL [32], b.toNat < 128 := by decide +kernel
theorem ascii_sorts : ∀ b ∈ Lib.join sortsL [32], b.toNat < 128 := by decide +kernel
theorem fields_any (L : List (List UInt8)) (s : ByteArray) (hs : s = bs (Lib.join L [32])) (hl : s.size < 1000) (hf : Lib.fields (Lib.join L [32]) = L) (ha : ∀ b ∈ Lib.join L [32], b.toNat < 128) (w : World) (h : EnvF w) :
    Calls Tryd.prog 40 #[.string s] w fun e w' => e = .returned (.slice (some ⟨w.heap.size, 0, none⟩) L.length L.length) ∧ w' = w.alloc (.cells (strs L).toArray 9) := by
  subst hs
  refine (Any.strings_Fields Tryd.lays157 (by kernel_rfl) (by kernel_rfl) _ w (by omega) (fun j b hb => ha b (by rw [bs_data] at hb; exact List.mem_of_getElem? hb)) (h.tab (by kernel_rfl))).mono ?_
  rintro e w' ⟨rfl, rfl⟩
  rw [bs_data, hf]
  exact ⟨rfl, rfl⟩
theorem verbs_any (w : World) (h : EnvF w) : Calls Tryd.prog 40 #[.string ⟨#[45, 32, 100, 101, 112, 111, 115, 105, 116, 32, 119, 105, 116, 104, 100, 114, 97, 119, 32, 112, 108, 97, 99, 101, 32, 99, 97, 110, 99, 101, 108, 32, 105, 110, 100, 101, 120, 32, 102, 117, 110, 100, 32, 115, 119, 101, 101, 112]⟩] w fun e w' =>
    e = .returned (.slice (some ⟨w.heap.size, 0, none⟩) 8 8) ∧ w' = w.alloc (.cells (strs verbsL).toArray 9) :=
  fields_any verbsL _ (by kernel_rfl) (by decide +kernel) fields_verbs ascii_verbs w h
theorem sorts_any (w : World) (h : EnvF w) : Calls Tryd.prog 40 #[.string ⟨#[45, 32, 108, 105, 109, 105, 116, 32, 110, 111, 119, 32, 119, 104, 111, 108, 101, 32, 112, 111, 115, 116]⟩] w fun e w' =>
    e = .returned (.slice (some ⟨w.heap.size, 0, none⟩) 5 5) ∧ w' = w.alloc (.cells (strs sortsL).toArray 9) :=
  fields_any sortsL _ (by kernel_rfl) (by decide +kernel) fields_sorts ascii_sorts w h
/-- where a word stands among words. -/
def idxW : List (List UInt8) → List UInt8 → Nat → Int
  | [], _, _ => -1
  | z :: zs, x, i => if z = x then i else idxW zs x (i + 1)
theorem idxW_eq : ∀ (L : List (List UInt8)) (x : List UInt8) (i : Nat), Lib.idxFromS (L.map bs) (bs x) i = idxW L x i
  | [], _, _ => rfl
  | z :: zs, x, i => by
    rw [List.map_cons]
    unfold Lib.idxFromS idxW
    by_cases h : z = x
    · rw [if_pos h, if_pos (by rw [h])]
    · rw [if_neg h, if_neg (fun e => h (bs_inj e)), idxW_eq zs x (i + 1)]
theorem strIdx_any (L : List (List UInt8)) (b c : Nat) (x : List UInt8) (hn : L.length ≤ 9223372036854775807) (w : World) (hc : ∀ j, j < L.length → w.cell? ⟨b, j, none⟩ = some (.string (bs (L.getD j [])))) :
    Calls Tryd.prog 42 #[.slice (some ⟨b, 0, none⟩) L.length c, .string (bs x)] w fun e w' => e = .returned (.int .i64 (idxW L x 0)) ∧ w' = w := by
  refine (Any.slices_Index_string Tryd.lays109 b 0 L.length c (L.map bs) (bs x) w (by simp) hn (fun j hj => ?_)).mono ?_
  · rw [List.length_map] at hj
    rw [Nat.zero_add, hc j hj]
    congr 2
    simp [List.getD, hj]
  · rintro e w' ⟨rfl, rfl⟩
    refine ⟨?_, rfl⟩
    rw [List.take_of_length_le (by simp)]
    unfold Lib.idxOfS
    rw [idxW_eq]
theorem kindOf_idx (x : List UInt8) : (kindOf x = 0 ∧ idxW verbsL x 0 < 1) ∨ (1 ≤ kindOf x ∧ kindOf x ≤ 7 ∧ idxW verbsL x 0 = kindOf x) := by
  by_cases h0 : [45] = x
  · subst h0; exact .inl (by decide)
  by_cases hk : kindOf x = 0
  · left
    refine ⟨hk, ?_⟩
    unfold kindOf at hk
    repeat' split at hk
    all_goals first | (exact absurd hk (by decide)) | skip
    simp [idxW, verbsL, h0, eq_comm, *]
  · obtain ⟨h1, h2⟩ := kindOf_ne hk
    refine .inr ⟨h1.1, h1.2, ?_⟩
    have : kindOf x = 1 ∨ kindOf x = 2 ∨ kindOf x = 3 ∨ kindOf x = 4 ∨ kindOf x = 5 ∨ kindOf x = 6 ∨ kindOf x = 7 := by omega
    rcases this with e | e | e | e | e | e | e <;> (rw [e] at h2 ⊢; rw [← h2]; decide)
theorem howOf_idx (x : List UInt8) : (howOf x = 0 ∧ idxW sortsL x 0 < 1) ∨ (1 ≤ howOf x ∧ howOf x ≤ 4 ∧ idxW sortsL x 0 = howOf x) := by
  by_cases h0 : [45] = x
  · subst h0; exact .inl (by decide)
  by_cases hk : howOf x = 0
  · left
    refine ⟨hk, ?_⟩
    unfold howOf at hk
    repeat' split at hk
    all_goals first | (exact absurd hk (by decide)) | skip
    simp [idxW, sortsL, h0, eq_comm, *]
  · obtain ⟨h1, h2⟩ := howOf_ne hk
    refine .inr ⟨h1.1, h1.2, ?_⟩
    have : howOf x = 1 ∨ howOf x = 2 ∨ howOf x = 3 ∨ howOf x = 4 := by omega
    rcases this with e | e | e | e <;> (rw [e] at h2 ⊢; rw [← h2]; decide)
/-- ParseInt at 64 bits: Atoi's answers. -/
theorem parseInt_any (l : List UInt8) (hl : l.length ≤ 281474976710656) (w : World) (h : Env w) : Calls Tryd.prog 44 #[.string (bs l), .int .i64 10, .int .i64 64] w fun e w' =>
    ((∃ v, Lib.atoiAll l = .ok v ∧ e = .returned (.tuple #[.int .i64 v, .nilIface])) ∨ (∀ v, Lib.atoiAll l ≠ .ok v) ∧ ∃ n t p, e = .returned (.tuple #[.int .i64 n, .iface t p])) ∧ Below w.heap.size w w' := by
  have hs : (bs l).size ≤ 281474976710656 := by rw [bs_size]; exact hl
  obtain ⟨e1, h1, h2⟩ := h.syn
  obtain ⟨e2, h3, h4⟩ := h.rng
  cases hh : Lib.atoiAll l with
  | ok v =>
    refine (Any.strconv_ParseInt_10_at64_ok Tryd.laysC174 (bs l) (by omega) v (by rw [bs_data, Lib.parseIntB_64]; exact hh) w).mono ?_
    rintro e w' ⟨rfl, hw⟩
    refine ⟨.inl ⟨v, rfl, rfl⟩, ?_⟩
    rcases hw with rfl | ⟨t, rfl⟩
    · exact Below.refl _ _
    · exact Lib.bytesWorld_below _ _ _
  | range =>
    refine (Any.strconv_ParseInt_10_at64_range Tryd.laysC174 (bs l) hs (by rw [bs_data, Lib.parseIntB_64]; exact hh) e2 w h3 h4).mono ?_
    rintro e w' ⟨N, rfl, _, _, hb⟩
    exact ⟨.inr ⟨nofun, _, _, _, rfl⟩, hb⟩
  | _ =>
    refine (Any.strconv_ParseInt_10_at64_syntax Tryd.laysC174 (bs l) hs (by rw [bs_data, Lib.parseIntB_64]; exact hh) e1 w h1 h2).mono ?_
    rintro e w' ⟨N, rfl, _, _, hb⟩
    exact ⟨.inr ⟨nofun, _, _, _, rfl⟩, hb⟩
theorem format_any (n : Int) (hn : I64 n) (w : World) (h : Env w) : Calls Tryd.prog 45 #[.int .i64 n, .int .i64 10] w fun e w' => e = .returned (.string (bs (Lib.itoa n))) ∧ Below w.heap.size w w' := by
  refine (Any.strconv_FormatInt_10 Tryd.laysM173 n hn.1 hn.2 w (h.tab (by kernel_rfl))).mono ?_
  rintro e w' ⟨rfl, k, os, rfl⟩
  exact ⟨rfl, Lib.below_grow _ _ (Nat.le_refl _) _ _⟩
end Go.Proofs.YtockodmbhnlheaaDoor
