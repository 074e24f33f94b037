/-
  THE LIBRARY's STRINGS, as chapter 8's walks want them: what the library's variables hold (Env); Itoa, Atoi, Split, Join, Cut at lists of bytes.
-/
import Derived.Test.YtockodmbhnlheaaDoorShelfT
import Derived.Test.YtockodmbhnlheaaDoorCmEq
import Derived.Lib.AppendIntMem
import Derived.Lib.AtoiErrMem
import Derived.Lib.ParseIntBTie
import Derived.Lib.Hide
namespace Go.Proofs.YtockodmbhnlheaaDoor
open Go.RowKit

/-- a string's bytes. -/
def bs (l : List UInt8) : ByteArray := ⟨l.toArray⟩
theorem bs_data (l : List UInt8) : (bs l).data.toList = l := by simp [bs]
theorem bs_eta (s : ByteArray) : bs s.data.toList = s := by
  obtain ⟨⟨l⟩⟩ := s; rfl
theorem bs_size (l : List UInt8) : (bs l).size = l.length := by simp [bs, ByteArray.size]
theorem bs_inj {a b : List UInt8} (h : bs a = bs b) : a = b := by rw [← bs_data a, h, bs_data]
def strs (L : List (List UInt8)) : List Value := L.map fun l => .string (bs l)
theorem strs_len (L : List (List UInt8)) : (strs L).length = L.length := by simp [strs]
theorem strs_app (L M : List (List UInt8)) : strs (L ++ M) = strs L ++ strs M := by simp [strs]
theorem strs_one (L : List (List UInt8)) : ∀ u ∈ strs L, u.oneCell' = true := by
  intro u hu
  simp only [strs, List.mem_map] at hu
  obtain ⟨l, _, rfl⟩ := hu; rfl
theorem strs_at {L : List (List UInt8)} {j : Nat} {x : List UInt8} (h : L[j]? = some x) : (strs L)[j]? = some (.string (bs x)) := by simp [strs, h]

/-- what the library's variables hold. -/
structure Env (w : World) : Prop where
  pow : ∃ t fr, w.heap[5]? = some (.cells (Lib.pow10Tab.map fun z => Value.int .u64 z).toArray t fr)
  syn : ∃ ev, w.cell? ⟨3, 0, none⟩ = some ev ∧ (ev = .nilIface ∨ ∃ te pe, ev = .iface te pe)
  rng : ∃ ev, w.cell? ⟨4, 0, none⟩ = some ev ∧ (ev = .nilIface ∨ ∃ te pe, ev = .iface te pe)
  max : ∃ m, w.cell? ⟨2, 0, none⟩ = some (.int .i64 m)
  low : 8 ≤ w.heap.size
theorem Env.below {w w' : World} {B : Nat} (h : Env w) (hb : Below B w w') (hB : 8 ≤ B) : Env w' := by
  obtain ⟨t, fr, hp⟩ := h.pow
  obtain ⟨e1, h1, h2⟩ := h.syn
  obtain ⟨e2, h3, h4⟩ := h.rng
  obtain ⟨m, h5⟩ := h.max
  exact ⟨⟨t, fr, (hb.block _ (by omega)).trans hp⟩, ⟨e1, (hb.cell (p := ⟨3, 0, none⟩) (by dsimp only; omega)).trans h1, h2⟩, ⟨e2, (hb.cell (p := ⟨4, 0, none⟩) (by dsimp only; omega)).trans h3, h4⟩,
    ⟨m, (hb.cell (p := ⟨2, 0, none⟩) (by dsimp only; omega)).trans h5⟩, Nat.le_trans h.low hb.size⟩
theorem Env.next {w w' : World} (h : Env w) (hb : Below w.heap.size w w') : Env w' := h.below hb h.low
theorem Env.tab {w : World} (h : Env w) {nm : String} (hn : Tryd.prog.globalNamed nm = some 5) : Lib.TabIs Tryd.prog w nm .u64 Lib.pow10Tab := by
  obtain ⟨t, fr, hp⟩ := h.pow
  unfold Lib.TabIs World.var?
  rw [hn]
  simp only [Option.bind_some, hp]

theorem itoa_any (n : Int) (hn : I64 n) (w : World) (h : Env w) : Calls Tryd.prog 29 #[.int .i64 n] w fun e w' => e = .returned (.string (bs (Lib.itoa n))) ∧ Below w.heap.size w w' := by
  refine (Any.strconv_Itoa Tryd.laysM171 n hn.1 hn.2 w (h.tab (by kernel_rfl))).mono ?_
  rintro e w' ⟨rfl, k, os, rfl⟩
  exact ⟨rfl, Lib.below_grow _ _ (Nat.le_refl _) _ _⟩
/-- a word that is a number, or none: what Atoi answers. -/
theorem atoi_any (l : List UInt8) (hl : l.length ≤ 281474976710656) (w : World) (h : Env w) : Calls Tryd.prog 53 #[.string (bs l)] w fun e w' =>
    ((∃ v, Lib.atoiAll l = .ok v ∧ e = .returned (.tuple #[.int .i64 v, .nilIface])) ∨ (∀ v, Lib.atoiAll l ≠ .ok v) ∧ ∃ n t p, e = .returned (.tuple #[.int .i64 n, .iface t p])) ∧ Below w.heap.size w w' := by
  have hs : (bs l).size ≤ 281474976710656 := by rw [bs_size]; exact hl
  obtain ⟨e1, h1, h2⟩ := h.syn
  obtain ⟨e2, h3, h4⟩ := h.rng
  cases hh : Lib.atoiAll l with
  | ok v =>
    refine (Any.strconv_Atoi_ok Tryd.laysC172 (bs l) (by omega) v (by rw [bs_data]; exact hh) w).mono ?_
    rintro e w' ⟨rfl, hw⟩
    refine ⟨.inl ⟨v, rfl, rfl⟩, ?_⟩
    rcases hw with rfl | ⟨t, rfl⟩
    · exact Below.refl _ _
    · exact Lib.bytesWorld_below _ _ _
  | range =>
    refine (Any.strconv_Atoi_range Tryd.laysC172 (bs l) hs (by rw [bs_data]; exact hh) e2 w h3 h4).mono ?_
    rintro e w' ⟨N, rfl, _, _, hb⟩
    exact ⟨.inr ⟨nofun, _, _, _, rfl⟩, hb⟩
  | _ =>
    refine (Any.strconv_Atoi_syntax Tryd.laysC172 (bs l) hs (by rw [bs_data]; exact hh) e1 w h1 h2).mono ?_
    rintro e w' ⟨N, rfl, _, _, hb⟩
    exact ⟨.inr ⟨nofun, _, _, _, rfl⟩, hb⟩
theorem split_any (l : List UInt8) (hl : l.length ≤ 20000) (w : World) (h : Env w) : Calls Tryd.prog 33 #[.string (bs l), .string (bs [32])] w fun e w' =>
    ∃ A c, e = .returned (.slice A (spl 32 l).length c) ∧ w'.ownsRow w.heap.size 9 1 (.slice A (spl 32 l).length c) (spl 32 l).length (strs (spl 32 l)) ∧ Below w.heap.size w w' := by
  obtain ⟨m, hm⟩ := h.max
  have hsz : (bs l).size < 4294967281 := by rw [bs_size]; omega
  refine (Any.strings_Split Tryd.lays146 (by kernel_rfl) (bs l) (bs [32]) m w hsz hm (by rw [bs_size]; decide)).mono ?_
  rintro e w' ⟨rfl, rfl⟩
  have hc : Lib.countB (bs l) (bs [32]) = Lib.count l [32] := by unfold Lib.countB; rw [bs_data, bs_data]
  have hd : (Lib.splitB (bs [32]) 0 (Lib.countB (bs l) (bs [32])) (bs l)).map (·.data.toList) = spl 32 l := by
    rw [Lib.splitB_data, hc, bs_data, bs_data]; exact split_spl 32 l
  have hlen : Lib.countB (bs l) (bs [32]) + 1 = (spl 32 l).length := by
    rw [← hd, List.length_map, Lib.splitB_all _ (by rw [bs_size]; decide) 0 _ _ rfl]
  have hv : (Lib.splitB (bs [32]) 0 (Lib.countB (bs l) (bs [32])) (bs l)).map Value.string = strs (spl 32 l) := by
    rw [← hd, strs, List.map_map]
    apply List.map_congr_left
    intro s _
    simp only [Function.comp_apply]
    rw [bs_eta]
  have hle : (spl 32 l).length ≤ maxLen := by
    have := Lib.countB_le (bs [32]) (by rw [bs_size]; decide) _ (bs l) (Nat.le_refl _)
    rw [bs_size] at this
    unfold maxLen; omega
  rw [hv, hlen]
  refine ⟨_, _, rfl, ?_, (Below.refl _ _).alloc (Nat.le_refl _) _⟩
  have := World.ownsRow_lit (base := w.heap.size) (e := 9) (size := 1) w (strs (spl 32 l)).toArray (spl 32 l).length (Nat.le_refl _) hle (by simp [strs_len])
  rwa [List.toList_toArray] at this
theorem join_any (L : List (List UInt8)) (hL : L ≠ []) (A : Option Addr) (n c B : Nat) (w : World) (h : Rd w B 1 A n c (strs L)) (hB : B ≤ w.heap.size) (hn : L.length ≤ 140737488355328) (hj : (Lib.join L [32]).length ≤ 140737488355328) :
    Calls Tryd.prog 31 #[.slice A n c, .string (bs [32])] w fun e w' => e = .returned (.string (bs (Lib.join L [32]))) ∧ Below w.heap.size w w' := by
  have hlen : L.length = n := by have := h.len; rw [strs_len] at this; omega
  have hpos : 0 < n := by rw [← hlen]; exact List.length_pos_iff.2 hL
  obtain ⟨b, o, rfl, hb, hc⟩ := h.at_ hpos
  have e1 : (L.map bs).map (·.data.toList) = L := by simp [List.map_map, Function.comp_def, bs_data]
  have hj' : (Lib.join ((L.map bs).map (·.data.toList)) (bs [32]).data.toList).length ≤ 140737488355328 := by rw [e1, bs_data]; exact hj
  have hx := Any.strings_Join Tryd.lays156 Tryd.Builder_Extra_156 b o c (L.map bs) (bs [32]) w (fun j x hx => by
    rw [List.getElem?_map] at hx
    cases hl : L[j]? with
    | none => rw [hl] at hx; cases hx
    | some l => rw [hl] at hx; injection hx with hx; subst hx; exact hc j _ (strs_at hl)) (by omega) (by simpa using hn) (by have := h.le; simp; omega) hj'
  rw [List.length_map, hlen] at hx
  refine hx.mono ?_
  rintro e w' ⟨rfl, hb⟩
  refine ⟨?_, hb⟩
  rw [e1, bs_data]; rfl
end Go.Proofs.YtockodmbhnlheaaDoor
