/-
  slices.IndexFunc, ContainsFunc at []api.Order, with the closures of package book.
-/
import Derived.Test.YtockodmbhnlheaaOrd
import Derived.Test.YtockodmbhnlheaaSide
namespace Go.Proofs.Ytockodmbhnlheaa
open Go.RowKit

def idxOf (p : Od → Bool) (L : List Od) : Int := match L.findIdx? p with
  | some k => (k : Int)
  | none => -1
theorem idxOf_found {p : Od → Bool} {L : List Od} {j : Nat} {x : Od} (hx : L[j]? = some x) (hp : p x = true) (hb : (L.take j).all (fun y => !p y) = true) : idxOf p L = j := by
  obtain ⟨h1, h2⟩ := List.getElem?_eq_some_iff.1 hx
  have : L.findIdx? p = some j := by
    rw [List.findIdx?_eq_some_iff_getElem]
    refine ⟨h1, by rw [h2]; exact hp, fun i hi => ?_⟩
    rw [List.all_eq_true] at hb
    have := hb L[i] (List.mem_take_iff_getElem.2 ⟨i, by omega, rfl⟩)
    simpa using this
  unfold idxOf; rw [this]
theorem idxOf_none {p : Od → Bool} {L : List Od} (hb : L.all (fun y => !p y) = true) : idxOf p L = -1 := by
  have : L.findIdx? p = none := by
    rw [List.findIdx?_eq_none_iff]
    rw [List.all_eq_true] at hb
    intro x hx
    have := hb x hx
    simpa using this
  unfold idxOf; rw [this]
theorem all_next {p : Od → Bool} {L : List Od} {j : Nat} {x : Od} (hx : L[j]? = some x) (hp : p x = false) (hb : (L.take j).all (fun y => !p y) = true) : (L.take (j + 1)).all (fun y => !p y) = true := by
  rw [List.take_add_one, hx]
  simp only [Option.toList, List.all_append, hb, List.all_cons, List.all_nil, hp]; rfl
theorem idxOf_lt {p : Od → Bool} {L : List Od} : idxOf p L = -1 ∧ L.any p = false ∨ (∃ k : Nat, idxOf p L = k ∧ k < L.length) ∧ L.any p = true := by
  unfold idxOf
  cases h : L.findIdx? p with
  | none =>
    rw [List.findIdx?_eq_none_iff] at h
    exact .inl ⟨rfl, by rw [List.any_eq_false]; intro x hx; rw [h x hx]; simp⟩
  | some k =>
    rw [List.findIdx?_eq_some_iff_getElem] at h
    obtain ⟨h1, h2, _⟩ := h
    exact .inr ⟨⟨k, rfl, h1⟩, by rw [List.any_eq_true]; exact ⟨_, List.getElem_mem h1, h2⟩⟩

def hasId (id : Int) (x : Od) : Bool := x.id == id
def aheadOf (o x : Od) : Bool := aheadB o x

set_option maxHeartbeats 400000 in
theorem has1_any (x : Od) (id : Int) (g : Nat) (w : World) (hg : g < w.heap.size) (h : w.cell? ⟨g, 0, none⟩ = some (.int .i64 id)) :
    Calls Try.prog 163 #[.agg #[.int .i64 x.id, .int .i64 x.acc, .int .i64 x.side, .int .i64 x.price, .int .i64 x.qty], .pointer (some ⟨g, 0, none⟩)] w fun e w' => e = .returned (.bool (hasId id x)) ∧ Below w.heap.size w w' := by
  go_enter Try.func163, Try.ntmps163
  go_wp2_with fail
  go_ret
  exact ⟨rfl, (Below.refl _ _).alloc (Nat.le_refl _) _⟩
set_option maxHeartbeats 400000 in
theorem remove1_any (x : Od) (id : Int) (g : Nat) (w : World) (hg : g < w.heap.size) (h : w.cell? ⟨g, 0, none⟩ = some (.int .i64 id)) :
    Calls Try.prog 143 #[.agg #[.int .i64 x.id, .int .i64 x.acc, .int .i64 x.side, .int .i64 x.price, .int .i64 x.qty], .pointer (some ⟨g, 0, none⟩)] w fun e w' => e = .returned (.bool (hasId id x)) ∧ Below w.heap.size w w' := by
  go_enter Try.func143, Try.ntmps143
  go_wp2_with fail
  go_ret
  exact ⟨rfl, (Below.refl _ _).alloc (Nat.le_refl _) _⟩

set_option maxHeartbeats 400000 in
theorem rest1_any (x o : Od) (g : Nat) (w : World) (hg : g < w.heap.size) (h0 : w.cell? ⟨g, 0, none⟩ = some (.int .i64 o.id)) (h1 : w.cell? ⟨g, 1, none⟩ = some (.int .i64 o.acc)) (h2 : w.cell? ⟨g, 2, none⟩ = some (.int .i64 o.side)) (h3 : w.cell? ⟨g, 3, none⟩ = some (.int .i64 o.price)) (h4 : w.cell? ⟨g, 4, none⟩ = some (.int .i64 o.qty)) :
    Calls Try.prog 139 #[.agg #[.int .i64 x.id, .int .i64 x.acc, .int .i64 x.side, .int .i64 x.price, .int .i64 x.qty], .pointer (some ⟨g, 0, none⟩)] w fun e w' => e = .returned (.bool (aheadOf o x)) ∧ Below w.heap.size w w' := by
  go_enter Try.func139, Try.ntmps139
  go_wp2_with fail
  refine (ahead_any o x _).mono ?_
  rintro e w1 ⟨rfl, hb1⟩
  go_wp2_with fail
  go_ret
  exact ⟨rfl, ((Below.refl _ _).alloc (Nat.le_refl _) _).trans (hb1.mono (by simp))⟩

set_option maxHeartbeats 1000000 in
theorem idx_has (A : Option Addr) (n c : Nat) (L : List Od) (id : Int) (g : Nat) (B : Nat) (w : World) (h : Rd w B 5 A n c (odCells L)) (hB : B ≤ w.heap.size) (hg : g < w.heap.size) (hc : w.cell? ⟨g, 0, none⟩ = some (.int .i64 id)) :
    Calls Try.prog 138 #[.slice A n c, .func (.func 163) #[] #[.pointer (some ⟨g, 0, none⟩)]] w fun e w' => e = .returned (.int .i64 (idxOf (hasId id) L)) ∧ Below w.heap.size w w' := by
  have hle := h.le
  have hcap := h.cap
  have HL := Lib.hid (rdo_len h)
  unfold maxLen at hcap
  go_enter Try.func138, Try.ntmps138
  go_wp2_with fail
  go_loopw [8] (fun i wr => ∃ j : Nat, j ≤ n ∧ i = .int .i64 j ∧ Below w.heap.size w wr ∧ Hid ((L.take j).all (fun y => !(hasId id) y) = true)) (fun i _ => n - (intOf i).toNat)
  case atStart => exact ⟨0, Nat.zero_le _, rfl, Below.refl _ _, rfl⟩
  case round =>
    obtain ⟨j, hj, rfl, hbr, HP⟩ := hrel
    have hws := hbr.size
    by_cases hlt : j < n
    · obtain ⟨b, o', x, rfl, hb, hx, k0, k1, k2, k3, k4⟩ := od_at (h.below (hbr.mono hB)) hlt
      have x1 : b < wr.heap.size := by omega
      have HX := Lib.hid hx
      clear hx
      go_wp2_with fail
      refine (has1_any _ _ _ _ (by omega) ((hbr.cell (p := ⟨g, 0, none⟩) hg).trans hc)).mono ?_
      rintro e w1 ⟨rfl, hb1⟩
      have hb2 := hbr.trans (hb1.mono hws)
      clear hb1
      rcases bool_cs ((hasId id) x) with hp | hp
      · have HN := Lib.hid (all_next (p := hasId id) HX.out hp HP.out)
        rw [hp]
        go_wp2_with fail
        go_roundw
        case rel => exact ⟨j + 1, by omega, by go_num, hb2, HN⟩
        case measure => simp [intOf]; omega
      · have HE := Lib.hid (idxOf_found (p := hasId id) HX.out hp HP.out)
        rw [hp]
        go_wp2_with fail
        go_ret
        exact ⟨ret_ii HE.out.symm, hb2⟩
    · have hjn : j = n := by omega
      have HE := Lib.hid (idxOf_none (p := hasId id) (L := L) (by have := HP.out; rw [hjn, List.take_of_length_le (by rw [HL.out]; exact Nat.le_refl _)] at this; exact this))
      clear hjn
      go_wp2_with fail
      go_ret
      exact ⟨ret_ii HE.out.symm, hbr⟩
set_option maxHeartbeats 1000000 in
theorem idx_remove (A : Option Addr) (n c : Nat) (L : List Od) (id : Int) (g : Nat) (B : Nat) (w : World) (h : Rd w B 5 A n c (odCells L)) (hB : B ≤ w.heap.size) (hg : g < w.heap.size) (hc : w.cell? ⟨g, 0, none⟩ = some (.int .i64 id)) :
    Calls Try.prog 138 #[.slice A n c, .func (.func 143) #[] #[.pointer (some ⟨g, 0, none⟩)]] w fun e w' => e = .returned (.int .i64 (idxOf (hasId id) L)) ∧ Below w.heap.size w w' := by
  have hle := h.le
  have hcap := h.cap
  have HL := Lib.hid (rdo_len h)
  unfold maxLen at hcap
  go_enter Try.func138, Try.ntmps138
  go_wp2_with fail
  go_loopw [8] (fun i wr => ∃ j : Nat, j ≤ n ∧ i = .int .i64 j ∧ Below w.heap.size w wr ∧ Hid ((L.take j).all (fun y => !(hasId id) y) = true)) (fun i _ => n - (intOf i).toNat)
  case atStart => exact ⟨0, Nat.zero_le _, rfl, Below.refl _ _, rfl⟩
  case round =>
    obtain ⟨j, hj, rfl, hbr, HP⟩ := hrel
    have hws := hbr.size
    by_cases hlt : j < n
    · obtain ⟨b, o', x, rfl, hb, hx, k0, k1, k2, k3, k4⟩ := od_at (h.below (hbr.mono hB)) hlt
      have x1 : b < wr.heap.size := by omega
      have HX := Lib.hid hx
      clear hx
      go_wp2_with fail
      refine (remove1_any _ _ _ _ (by omega) ((hbr.cell (p := ⟨g, 0, none⟩) hg).trans hc)).mono ?_
      rintro e w1 ⟨rfl, hb1⟩
      have hb2 := hbr.trans (hb1.mono hws)
      clear hb1
      rcases bool_cs ((hasId id) x) with hp | hp
      · have HN := Lib.hid (all_next (p := hasId id) HX.out hp HP.out)
        rw [hp]
        go_wp2_with fail
        go_roundw
        case rel => exact ⟨j + 1, by omega, by go_num, hb2, HN⟩
        case measure => simp [intOf]; omega
      · have HE := Lib.hid (idxOf_found (p := hasId id) HX.out hp HP.out)
        rw [hp]
        go_wp2_with fail
        go_ret
        exact ⟨ret_ii HE.out.symm, hb2⟩
    · have hjn : j = n := by omega
      have HE := Lib.hid (idxOf_none (p := hasId id) (L := L) (by have := HP.out; rw [hjn, List.take_of_length_le (by rw [HL.out]; exact Nat.le_refl _)] at this; exact this))
      clear hjn
      go_wp2_with fail
      go_ret
      exact ⟨ret_ii HE.out.symm, hbr⟩
set_option maxHeartbeats 1000000 in
theorem idx_rest (A : Option Addr) (n c : Nat) (L : List Od) (o : Od) (g : Nat) (B : Nat) (w : World) (h : Rd w B 5 A n c (odCells L)) (hB : B ≤ w.heap.size) (hg : g < w.heap.size) (hc : (w.cell? ⟨g, 0, none⟩ = some (.int .i64 o.id) ∧ w.cell? ⟨g, 1, none⟩ = some (.int .i64 o.acc) ∧ w.cell? ⟨g, 2, none⟩ = some (.int .i64 o.side) ∧ w.cell? ⟨g, 3, none⟩ = some (.int .i64 o.price) ∧ w.cell? ⟨g, 4, none⟩ = some (.int .i64 o.qty))) :
    Calls Try.prog 138 #[.slice A n c, .func (.func 139) #[] #[.pointer (some ⟨g, 0, none⟩)]] w fun e w' => e = .returned (.int .i64 (idxOf (aheadOf o) L)) ∧ Below w.heap.size w w' := by
  have hle := h.le
  have hcap := h.cap
  have HL := Lib.hid (rdo_len h)
  unfold maxLen at hcap
  go_enter Try.func138, Try.ntmps138
  go_wp2_with fail
  go_loopw [8] (fun i wr => ∃ j : Nat, j ≤ n ∧ i = .int .i64 j ∧ Below w.heap.size w wr ∧ Hid ((L.take j).all (fun y => !(aheadOf o) y) = true)) (fun i _ => n - (intOf i).toNat)
  case atStart => exact ⟨0, Nat.zero_le _, rfl, Below.refl _ _, rfl⟩
  case round =>
    obtain ⟨j, hj, rfl, hbr, HP⟩ := hrel
    have hws := hbr.size
    by_cases hlt : j < n
    · obtain ⟨b, o', x, rfl, hb, hx, k0, k1, k2, k3, k4⟩ := od_at (h.below (hbr.mono hB)) hlt
      have x1 : b < wr.heap.size := by omega
      have HX := Lib.hid hx
      clear hx
      go_wp2_with fail
      refine (rest1_any _ o _ _ (by omega) ((hbr.cell (p := ⟨g, _, none⟩) hg).trans hc.1) ((hbr.cell (p := ⟨g, _, none⟩) hg).trans hc.2.1) ((hbr.cell (p := ⟨g, _, none⟩) hg).trans hc.2.2.1) ((hbr.cell (p := ⟨g, _, none⟩) hg).trans hc.2.2.2.1) ((hbr.cell (p := ⟨g, _, none⟩) hg).trans hc.2.2.2.2)).mono ?_
      rintro e w1 ⟨rfl, hb1⟩
      have hb2 := hbr.trans (hb1.mono hws)
      clear hb1
      rcases bool_cs ((aheadOf o) x) with hp | hp
      · have HN := Lib.hid (all_next (p := aheadOf o) HX.out hp HP.out)
        rw [hp]
        go_wp2_with fail
        go_roundw
        case rel => exact ⟨j + 1, by omega, by go_num, hb2, HN⟩
        case measure => simp [intOf]; omega
      · have HE := Lib.hid (idxOf_found (p := aheadOf o) HX.out hp HP.out)
        rw [hp]
        go_wp2_with fail
        go_ret
        exact ⟨ret_ii HE.out.symm, hb2⟩
    · have hjn : j = n := by omega
      have HE := Lib.hid (idxOf_none (p := aheadOf o) (L := L) (by have := HP.out; rw [hjn, List.take_of_length_le (by rw [HL.out]; exact Nat.le_refl _)] at this; exact this))
      clear hjn
      go_wp2_with fail
      go_ret
      exact ⟨ret_ii HE.out.symm, hbr⟩

set_option maxHeartbeats 400000 in
theorem contains_has (A : Option Addr) (n c : Nat) (L : List Od) (id : Int) (g : Nat) (B : Nat) (w : World) (h : Rd w B 5 A n c (odCells L)) (hB : B ≤ w.heap.size) (hg : g < w.heap.size) (hc : w.cell? ⟨g, 0, none⟩ = some (.int .i64 id)) :
    Calls Try.prog 118 #[.slice A n c, .func (.func 163) #[] #[.pointer (some ⟨g, 0, none⟩)]] w fun e w' => e = .returned (.bool (L.any (hasId id))) ∧ Below w.heap.size w w' := by
  have HI := Lib.hid (idxOf_lt (p := hasId id) (L := L))
  go_enter Try.func118, Try.ntmps118
  go_wp2_with fail
  refine (idx_has A n c L id g B _ h hB hg hc).mono ?_
  rintro e w1 ⟨rfl, hb1⟩
  rcases HI.out with ⟨h1, h2⟩ | ⟨⟨k, h1, _⟩, h2⟩
  · have H2 := Lib.hid h2
    rw [h1]
    clear h1 h2
    go_wp2_with fail
    go_ret
    exact ⟨ret_bb H2.out.symm, hb1⟩
  · have H2 := Lib.hid h2
    rw [h1]
    clear h1 h2
    go_wp2_with fail
    go_ret
    exact ⟨ret_bb H2.out.symm, hb1⟩

end Go.Proofs.Ytockodmbhnlheaa
