/-
  append ONTO A ROW OF THE CALL's OWN, from whatever slice reads as a list (nil, empty or not): one law, told once; the element types' rows of the table under one word each.
-/
import Derived.Test.YtockodmbhnlheaaDoorProg
import Derived.Test.YtockodmbhnlheaaDoorMem
import Derived.Maps.AppendAt
import Derived.Laws.AppendOwnNone
import Derived.OwnWalk
namespace Go.Proofs.YtockodmbhnlheaaDoor
open Go.RowKit

/-- what the table says of a slice type and its element type. -/
structure Elem (P : Program) (t e : TypeId) (k bytes : Nat) : Prop where
  ht : P.underlying t = some (.slice e)
  hi : ∃ (i : TypeInfo) (z : Value), P.info? e = some i ∧ i.zero = some z ∧ i.size = k ∧ i.bytes = bytes ∧ z.cells.size = k
  pos : 0 < k

theorem elem_mk {P : Program} {t e : TypeId} {k bytes : Nat} (ht : P.underlying t = some (.slice e)) (h : (P.info? e).map (fun i => (i.size, i.bytes, i.zero.map (·.cells.size))) = some (k, bytes, some k)) (pos : 0 < k) : Elem P t e k bytes := by
  refine ⟨ht, ?_, pos⟩
  cases hi : P.info? e with
  | none => rw [hi] at h; cases h
  | some i =>
    rw [hi] at h
    simp only [Option.map_some, Option.some.injEq, Prod.mk.injEq] at h
    obtain ⟨h1, h2, h3⟩ := h
    cases hz : i.zero with
    | none => rw [hz] at h3; cases h3
    | some z =>
      rw [hz] at h3
      exact ⟨i, z, rfl, hz, h1, h2, by simpa using h3⟩

/-- the row of a slice value, as a slice that reads. -/
theorem Rd.of_own {w : World} {base e k n c : Nat} {A : Option Addr} {xs : List Value} (h : w.ownsRow base e k (.slice A n c) n xs) : Rd w w.heap.size k A n c xs := by
  obtain ⟨hl, h | ⟨g, cap, cur, hv, _, hh, hn, hc, hs, ht⟩⟩ := h
  · obtain ⟨hv, rfl⟩ := h
    injection hv with h1 h2 h3
    subst h1 h3
    have : xs = [] := List.eq_nil_of_length_eq_zero (by simpa using hl)
    subst this
    exact Rd.none_ _ _ _
  · injection hv with h1 _ h3
    subst h1 h3
    refine ⟨hl, hn, hc, nofun, fun _ => ⟨g, 0, rfl, ?_, fun j u hj => ?_⟩⟩
    · rcases Nat.lt_or_ge g w.heap.size with h0 | h0
      · exact h0
      · rw [Array.getElem?_eq_none h0] at hh; cases hh
    · have hj' : j < n * k := by have := (List.getElem?_eq_some_iff.1 hj).1; omega
      rw [← ht, List.getElem?_take_of_lt hj'] at hj
      simp [World.cell?, hh, ← hj]

theorem own_mono {w : World} {base base' e k n : Nat} {v : Value} {xs : List Value} (h : w.ownsRow base e k v n xs) (hb : base' ≤ base) : w.ownsRow base' e k v n xs := by
  obtain ⟨hl, ⟨rfl, rfl⟩ | ⟨g, cap, cur, rfl, h1, h2⟩⟩ := h
  · exact ⟨hl, .inl ⟨rfl, rfl⟩⟩
  · exact ⟨hl, .inr ⟨g, cap, cur, rfl, by omega, h2⟩⟩
theorem own_drewN {w : World} {base e k n : Nat} {v : Value} {xs : List Value} (h : w.ownsRow base e k v n xs) (q : Nat) : (w.drewN q).ownsRow base e k v n xs := by
  obtain ⟨hl, h⟩ := h
  exact ⟨hl, h⟩
/-- a row of one's own behind a call that has turned nothing. -/
theorem own_below {w w' : World} {base e k n B : Nat} {v : Value} {xs : List Value} (h : w.ownsRow base e k v n xs) (hb : Below B w w') (hB : w.heap.size ≤ B) : w'.ownsRow base e k v n xs := by
  obtain ⟨hl, ⟨rfl, rfl⟩ | ⟨g, cap, cur, rfl, h1, h2, h3⟩⟩ := h
  · exact ⟨hl, .inl ⟨rfl, rfl⟩⟩
  · refine ⟨hl, .inr ⟨g, cap, cur, rfl, h1, ?_, h3⟩⟩
    rw [hb.block g ?_]; exact h2
    rcases Nat.lt_or_ge g w.heap.size with h0 | h0
    · omega
    · rw [Array.getElem?_eq_none h0] at h2; cases h2
/-- a new row, whatever it holds. -/
theorem own_shape {w : World} {base e k n : Nat} {v : Value} {xs : List Value} (h : w.ownsRow base e k v n xs) : ∃ A c, v = .slice A n c := by
  obtain ⟨_, ⟨rfl, rfl⟩ | ⟨g, cap, _, rfl, _⟩⟩ := h
  · exact ⟨_, _, rfl⟩
  · exact ⟨_, _, rfl⟩

section
variable {P : Program} {w : World}

theorem run_app (base : Nat) (t ty e : TypeId) (k bytes : Nat) (E : Elem P t e k bytes) (v : Value) (n : Nat) (xs : List Value) (hown : w.ownsRow base e k v n xs)
    (B : Nat) (A : Option Addr) (m c : Nat) (news : List Value) (hr : Rd w B k A m c news) (h1 : ∀ u ∈ news, u.oneCell' = true)
    (hlen : n + m ≤ maxLen) (hbytes : (n + m) * bytes ≤ 140737488355328) (hbase : base ≤ w.heap.size) :
    ∃ v' w', (Builtin.append_ #[t, t] ty #[v, .slice A m c]).run P w = .ok v' w' ∧ w'.ownsRow base e k v' (n + m) (xs ++ news) ∧ w.grownBy w' v.ownBlock ∧
      (v'.ownBlock = v.ownBlock ∨ v'.ownBlock = some w.heap.size) := by
  obtain ⟨i, z, hi, hz, hsize, hby, hzs⟩ := E.hi
  cases A with
  | none =>
    have hc0 := hr.nil rfl
    have hm0 : m = 0 := by have := hr.le; omega
    subst hm0
    have hn : news = [] := List.eq_nil_of_length_eq_zero (by simpa using hr.len)
    subst hn hc0
    refine ⟨v, w, run_append_owned_none (P := P) (w := w) base t ty e i k E.ht hi v n xs hown, by simpa using hown, World.grownBy.refl w _, .inl rfl⟩
  | some ad =>
    have hcells : ∀ j u, news[j]? = some u → w.cell? (ad.add j) = some u := by
      intro j u hu
      obtain ⟨b, o, hA, _, hc⟩ := hr.one hu
      injection hA with hA
      subst hA
      unfold Addr.add
      by_cases h0 : j = 0
      · subst h0; simpa using hc
      · simpa [h0] using hc
    obtain ⟨v', w', h2, h3, h4, _, h6⟩ := run_append_own_at (P := P) w base t ty e i z k bytes E.ht hi hz hsize hby hzs E.pos v n xs hown ad m c news hr.len hcells h1 hlen hbytes hbase
    exact ⟨v', w', h2, h3, h4, h6⟩

/-- below the base nothing has turned. -/
theorem below_of_grown {base e k n : Nat} {v : Value} {xs : List Value} {w w' : World} (hown : w.ownsRow base e k v n xs) (hg : w.grownBy w' v.ownBlock) (hbase : base ≤ w.heap.size) : Below base w w' :=
  (Below.refl _ _).grown hg hbase fun j hj => (hown.lt j hj).1

theorem wp_app {o : Oper} {a : Act} {K : Act → World → Prop} {Q : Exit → Act → World → Prop} (s x : Operand) (t : TypeId)
    (ho : o.op = .call { callee := .builtin .append, args := #[s, x], argTypes := #[t, t] })
    (base e k bytes : Nat) (E : Elem P t e k bytes) (v : Value) (n : Nat) (xs : List Value) (hs : a.eval s = v) (hown : w.ownsRow base e k v n xs)
    (B : Nat) (A : Option Addr) (m c : Nat) (news : List Value) (hx : a.eval x = .slice A m c) (hr : Rd w B k A m c news) (h1 : ∀ u ∈ news, u.oneCell' = true)
    (hlen : n + m ≤ maxLen) (hbytes : (n + m) * bytes ≤ 140737488355328) (hbase : base ≤ w.heap.size)
    (h : ∀ v' w', w'.ownsRow base e k v' (n + m) (xs ++ news) → Below base w w' → w.grownBy w' v.ownBlock → (v'.ownBlock = v.ownBlock ∨ v'.ownBlock = some w.heap.size) → K (a.put o.dst v') w') : o.wp P a w K Q := by
  obtain ⟨v', w', hrun, h2, h3, h4⟩ := run_app (P := P) base t o.type e k bytes E v n xs hown B A m c news hr h1 hlen hbytes hbase
  unfold Oper.wp execOp
  simp only [ho, resolve, invoke, builtin, Sem.run_bind, Sem.run_pure, Result.andThen_ok, List.map_toArray, List.map_cons, List.map_nil, hs, hx, hrun]
  exact h v' w' h2 (below_of_grown hown h3 hbase) h3 h4

theorem wpList_app {ops : Array Oper} {rest : List Oper} {o : Oper} {a : Act} {Q : Exit → Act → World → Prop} (hgd : o.guard = none) (s x : Operand) (t : TypeId)
    (ho : o.op = .call { callee := .builtin .append, args := #[s, x], argTypes := #[t, t] })
    (base e k bytes : Nat) (E : Elem P t e k bytes) (v : Value) (n : Nat) (xs : List Value) (hs : a.eval s = v) (hown : w.ownsRow base e k v n xs)
    (B : Nat) (A : Option Addr) (m c : Nat) (news : List Value) (hx : a.eval x = .slice A m c) (hr : Rd w B k A m c news) (h1 : ∀ u ∈ news, u.oneCell' = true)
    (hlen : n + m ≤ maxLen) (hbytes : (n + m) * bytes ≤ 140737488355328) (hbase : base ≤ w.heap.size)
    (h : ∀ v' w', w'.ownsRow base e k v' (n + m) (xs ++ news) → Below base w w' → w.grownBy w' v.ownBlock → (v'.ownBlock = v.ownBlock ∨ v'.ownBlock = some w.heap.size) → wpList P ops Q rest (a.put o.dst v') w') : wpList P ops Q (o :: rest) a w :=
  wpList_plain hgd fun _ hK => wp_app s x t ho base e k bytes E v n xs hs hown B A m c news hx hr h1 hlen hbytes hbase fun v' w' h2 h3 h4 h5 => hK _ _ (h v' w' h2 h3 h4 h5)
end

/-- s[:hi], s[lo:], s[lo:hi] of a slice that reads: one run each, and what it reads as. -/
theorem rd_sliced {w : World} {B k n c : Nat} {A : Option Addr} {xs : List Value} (h : Rd w B k A n c xs) (lo hi : Nat) (h1 : lo ≤ hi) (h2 : hi ≤ n) :
    ∃ A', sliced A lo hi c k = .slice A' (hi - lo) (c - lo) ∧ Rd w B k A' (hi - lo) (c - lo) ((xs.drop (lo * k)).take ((hi - lo) * k)) := by
  have hle := h.le
  have hcap := h.cap
  refine ⟨_, rfl, ⟨?_, by omega, by omega, ?_, fun hn => ?_⟩⟩
  · rw [List.length_take, List.length_drop, h.len, ← Nat.sub_mul]
    exact Nat.min_eq_left (Nat.mul_le_mul_right _ (by omega))
  · intro hA
    by_cases hc : c = lo
    · omega
    · simp [hc] at hA
      have := h.nil hA
      omega
  · obtain ⟨b, o, rfl, hb, hcell⟩ := h.at_ (by omega)
    have hc : ¬ c = lo := by omega
    refine ⟨b, o + lo * k, ?_, hb, fun j u hj => ?_⟩
    · simp only [hc, if_false, Option.map_some, Option.some.injEq]
      unfold Addr.add
      by_cases h0 : lo * k = 0
      · simp [h0]
      · simp [h0]
    · have hj' : j < (hi - lo) * k := by
        have := (List.getElem?_eq_some_iff.1 hj).1
        rw [List.length_take] at this
        omega
      rw [List.getElem?_take_of_lt hj', List.getElem?_drop] at hj
      rw [Nat.add_assoc]
      exact hcell _ _ hj

theorem elem_size {P : Program} {t e k bytes : Nat} (E : Elem P t e k bytes) (w : World) : (sizeOf (P.elem t)).run P w = .ok k w := by
  obtain ⟨i, z, hi, _, hs, _, _⟩ := E.hi
  simp [Program.elem, E.ht, sizeOf, typeInfo, hi, hs]
theorem elem_elem {P : Program} {t e k bytes : Nat} (E : Elem P t e k bytes) : P.underlying t = some (.slice (P.elem t)) := by
  simp [Program.elem, E.ht]

/-- s[:hi] -/
theorem cut_h {P : Program} {t e k bytes : Nat} (E : Elem P t e k bytes) {w : World} {B n c : Nat} {A : Option Addr} {xs : List Value} (h : Rd w B k A n c xs) (hi : Nat) (h2 : hi ≤ n) :
    ∃ A', (∀ w', (Instr.slice t (.slice A n c) none (some (.int .i64 hi)) none).run P w' = .ok (.slice A' hi c) w') ∧ Rd w B k A' hi c (xs.take (hi * k)) := by
  obtain ⟨A', h3, h4⟩ := rd_sliced h 0 hi (by omega) h2
  refine ⟨A', fun w' => ?_, by simpa using h4⟩
  have hle := h.le
  rw [run_slice_h _ _ _ _ _ (elem_elem E) .i64 hi (by omega) (by omega), elem_size E]
  simp only [Result.andThen, Int.toNat_natCast]
  rw [h3]; simp

/-- s[lo:] -/
theorem cut_l {P : Program} {t e k bytes : Nat} (E : Elem P t e k bytes) {w : World} {B n c : Nat} {A : Option Addr} {xs : List Value} (h : Rd w B k A n c xs) (lo : Nat) (h2 : lo ≤ n) :
    ∃ A', (∀ w', (Instr.slice t (.slice A n c) (some (.int .i64 lo)) none none).run P w' = .ok (.slice A' (n - lo) (c - lo)) w') ∧ Rd w B k A' (n - lo) (c - lo) (xs.drop (lo * k)) := by
  obtain ⟨A', h3, h4⟩ := rd_sliced h lo n h2 (Nat.le_refl _)
  refine ⟨A', fun w' => ?_, ?_⟩
  · rw [run_slice_l _ _ _ _ _ (elem_elem E) .i64 lo (by omega) (by omega), elem_size E]
    simp only [Result.andThen, Int.toNat_natCast]
    rw [h3]
  · rw [List.take_of_length_le (by rw [List.length_drop, h.len, ← Nat.sub_mul]; exact Nat.le_refl _)] at h4
    exact h4

theorem elem_int : Elem Tryd.prog 59 3 1 8 := elem_mk Tryd.underlying59 (by kernel_rfl) (by decide)
theorem one_ints (l : List Int) : ∀ u ∈ ints l, u.oneCell' = true := ints_oneCell .i64 l

end Go.Proofs.YtockodmbhnlheaaDoor
