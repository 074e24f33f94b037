/-
  The document's ReadCommand, walked.
-/
import Derived.Test.YtockodmbhnlheaaDoorRefTxt
import Derived.Test.YtockodmbhnlheaaDoorRefNum
import Derived.Test.YtockodmbhnlheaaDoorRefRdP
import Derived.Test.YtockodmbhnlheaaDoorTextParse
namespace Go.Proofs.YtockodmbhnlheaaDoor
open Go.RowKit

theorem refBad_any (w : World) : Calls Tryd.prog 41 #[] w fun e w' => e = .returned (.tuple #[.agg #[.int .i64 0, .int .i64 0, .int .i64 0, .int .i64 0, .int .i64 0, .int .i64 0, .int .i64 0, .int .i64 0, .int .i64 0, .int .i64 0, .bool false], .int .i64 1]) ∧ Below w.heap.size w w' := by
  go_enter Tryd.func41, Tryd.ntmps41
  go_upto_region 1 with (fail)
  refine wp_nameT ?_
  intro w1 hw1
  have hb1 : Below w.heap.size w w1 := by rw [hw1]; exact (Below.refl _ _).alloc (Nat.le_refl _) _
  have X1 : Blk w1 w.heap.size 25 #[.int .i64 0, .int .i64 0, .int .i64 0, .int .i64 0, .int .i64 0, .int .i64 0, .int .i64 0, .int .i64 0, .int .i64 0, .int .i64 0, .bool false] := by rw [hw1]; exact Blk.new w _ _
  clear hw1
  obtain ⟨⟨z0, z1, z2, z3, z4, z5, z6, z7, z8, z9, z10⟩, y0, y1, y2, y3, y4, y5, y6, y7, y8, y9, y10⟩ := bl_c11 X1
  have x1 := X1.lt
  go_wp2_with fail
  refine exit_nameT ?_
  intro Z hZ
  obtain ⟨XZ, hbZ⟩ := set11w X1 hb1 (Nat.le_refl _) (.int .i64 0) (.int .i64 0) (.int .i64 0) (.int .i64 0) (.int .i64 0) (.int .i64 0) (.int .i64 0) (.int .i64 0) (.int .i64 0) (.int .i64 0) (.bool false)
  rw [← hZ] at XZ hbZ
  clear hZ z0 z1 z2 z3 z4 z5 z6 z7 z8 z9 z10 y0 y1 y2 y3 y4 y5 y6 y7 y8 y9 y10
  obtain ⟨⟨z0, z1, z2, z3, z4, z5, z6, z7, z8, z9, z10⟩, -⟩ := bl_c11 XZ
  refine bodyPost_ret (v := .tuple #[.agg #[.int .i64 0, .int .i64 0, .int .i64 0, .int .i64 0, .int .i64 0, .int .i64 0, .int .i64 0, .int .i64 0, .int .i64 0, .int .i64 0, .bool false], .int .i64 1]) (by simp [results, Tryd.results41, go_sem, *]) rfl ?_
  exact ⟨rfl, hbZ⟩
/-- where a row of words came: what holds beside. -/
def Xf (sl : Nat) (M : List (List UInt8)) (L : Nat → Bool) (g : Nat → Value) (w : World) : Prop :=
  L 0 = true → ∃ b, g sl = .slice (some ⟨b, 0, none⟩) M.length M.length ∧ ∀ j, j < M.length → w.cell? ⟨b, j, none⟩ = some (.string (bs (M.getD j [])))
theorem Xf.keep {sl : Nat} {M : List (List UInt8)} {L : Nat → Bool} {g : Nat → Value} {w w' : World} (h : Xf sl M L g w) (hb : Below w.heap.size w w') {i : Nat} {d : Option Tmp} {v : Value} (h0 : i ≠ 0) (h5 : d ≠ some sl) : Xf sl M (updL L i) (upd g d v) w' := by
  intro hl
  rw [updL_ne (Ne.symm h0)] at hl
  rw [upd_ne h5]
  obtain ⟨b, e1, e2⟩ := h hl
  exact ⟨b, e1, fun j hj => cell_of (e2 j hj) hb⟩
theorem Xf.got {sl : Nat} {M : List (List UInt8)} {L : Nat → Bool} {g : Nat → Value} {w : World} : Xf sl M (updL L 0) (upd g (some sl) (.slice (some ⟨w.heap.size, 0, none⟩) M.length M.length)) (w.alloc (.cells (strs M).toArray 9)) := fun _ => by
  refine ⟨w.heap.size, upd_self, fun j hj => ?_⟩
  refine vcell _ _ _ _ ?_
  simp [List.getD, hj]
theorem word_at {w : World} {B b o n c : Nat} {L : List (List UInt8)} (h : Rd w B 1 (some ⟨b, o, none⟩) n c (strs L)) {j : Nat} {x : List UInt8} (hj : L[j]? = some x) : w.cell? ⟨b, o + j, none⟩ = some (.string (bs x)) := by
  have hl := (List.getElem?_eq_some_iff.1 hj).1
  obtain ⟨b', o', e, _, hc⟩ := h.at_ (by have := h.len; rw [strs_len] at this; omega)
  injection e with e
  injection e with e1 e2
  subst e1; subst e2
  exact hc j _ (strs_at hj)
theorem wrap64_R (n : Int) (h : -9223372036854775808 ≤ n ∧ n ≤ 9223372036854775807) : wrap64 n = n := by unfold wrap64; omega
theorem two_at {w : World} {b g8 o1 o2 : Nat} (h : Blk w b 86 #[.pointer (some ⟨g8, o1, none⟩), .pointer (some ⟨g8, o2, none⟩)]) (hne : b ≠ g8) : ∀ j o, [o1, o2][j]? = some o → ∃ b9, some (⟨b, 0, none⟩ : Addr) = some ⟨b9, 0, none⟩ ∧ b9 ≠ g8 ∧ w.cell? ⟨b9, j, none⟩ = some (.pointer (some ⟨g8, o, none⟩)) := fun j o ho => by
  refine ⟨b, rfl, hne, ?_⟩
  match j, ho with
  | 0, ho => injection ho with ho; subst ho; exact h.cell 0
  | 1, ho => injection ho with ho; subst ho; exact h.cell 1
theorem four_at {w : World} {b g8 o1 o2 o3 o4 : Nat} (h : Blk w b 86 #[.pointer (some ⟨g8, o1, none⟩), .pointer (some ⟨g8, o2, none⟩), .pointer (some ⟨g8, o3, none⟩), .pointer (some ⟨g8, o4, none⟩)]) (hne : b ≠ g8) : ∀ j o, [o1, o2, o3, o4][j]? = some o → ∃ b9, some (⟨b, 0, none⟩ : Addr) = some ⟨b9, 0, none⟩ ∧ b9 ≠ g8 ∧ w.cell? ⟨b9, j, none⟩ = some (.pointer (some ⟨g8, o, none⟩)) := fun j o ho => by
  refine ⟨b, rfl, hne, ?_⟩
  match j, ho with
  | 0, ho => injection ho with ho; subst ho; exact h.cell 0
  | 1, ho => injection ho with ho; subst ho; exact h.cell 1
  | 2, ho => injection ho with ho; subst ho; exact h.cell 2
  | 3, ho => injection ho with ho; subst ho; exact h.cell 3
/-- the region of an order's numbers: the new row, and the old one till it is read. -/
structure X26 (B : Nat) (v5 : Value) (cs : Array Value) (L : Nat → Bool) (g : Nat → Value) (w : World) : Prop where
  r : L 15 = true → ∃ b, B ≤ b ∧ g 112 = .slice (some ⟨b, 0, none⟩) 5 5 ∧ Blk w b 9 cs ∧ (L 16 = true → g 5 = .slice (some ⟨b, 0, none⟩) 5 5)
  c : L 16 = true → L 15 = true
  v : ∀ j ∈ [0, 3, 6, 9, 12], Was j 5 v5 L g
theorem X26.keep {B : Nat} {v5 : Value} {cs : Array Value} {L : Nat → Bool} {g : Nat → Value} {w : World} (h : X26 B v5 cs L g w) {i : Nat} {d : Option Tmp} {u : Value} (hi : i ≠ 15 ∧ i ≠ 16) (hd : d ≠ some 112 ∧ d ≠ some 5) : X26 B v5 cs (updL L i) (upd g d u) w := by
  refine ⟨?_, ?_, fun j hj => (h.v j hj).keep hd.2⟩
  · rw [updL_ne (Ne.symm hi.1), updL_ne (Ne.symm hi.2), upd_ne hd.1, upd_ne hd.2]; exact h.r
  · rw [updL_ne (Ne.symm hi.1), updL_ne (Ne.symm hi.2)]; exact h.c
theorem X26.got {B : Nat} {v5 : Value} {cs : Array Value} {L : Nat → Bool} {g : Nat → Value} {w : World} (h : X26 B v5 cs L g w) (hB : B ≤ w.heap.size) (hl : L 15 = false) : X26 B v5 cs (updL L 15) (upd g (some 112) (.slice (some ⟨w.heap.size, 0, none⟩) 5 5)) (w.alloc (.cells cs 9)) := by
  have h16 : L 16 = false := by cases e : L 16 <;> first | rfl | (rw [h.c e] at hl; cases hl)
  refine ⟨fun _ => ⟨_, hB, upd_self, Blk.new _ _ _, fun e => ?_⟩, fun _ => updL_self, fun j hj => (h.v j hj).keep (by decide)⟩
  rw [updL_ne (by decide), h16] at e; cases e
theorem X26.set {B : Nat} {v5 : Value} {cs : Array Value} {L : Nat → Bool} {g : Nat → Value} {w : World} (h : X26 B v5 cs L g w) (h15 : L 15 = true) (hv : ∀ j ∈ [0, 3, 6, 9, 12], L j = true) {b : Nat} (e : g 112 = .slice (some ⟨b, 0, none⟩) 5 5) : X26 B v5 cs (updL L 16) (upd g (some 5) (.slice (some ⟨b, 0, none⟩) 5 5)) w := by
  obtain ⟨b', h1, h2, h3, _⟩ := h.r h15
  have : b' = b := by rw [h2] at e; injection e with e; injection e with e; injection e
  subst this
  refine ⟨fun _ => ⟨b', h1, by rw [upd_ne (by decide)]; exact h2, h3, fun _ => upd_self⟩, fun _ => by rw [updL_ne (by decide)]; exact h15, fun j hj => Was.over (hv j hj)⟩
def cmA (c : Cm) : Array Value := #[.int .i64 c.kind, .int .i64 c.acc, .int .i64 c.market, .int .i64 c.n, .int .i64 c.o.id, .int .i64 c.o.acc, .int .i64 c.o.side, .int .i64 c.o.price, .int .i64 c.o.qty, .int .i64 c.how, .bool c.reduce]
theorem cmA_set {o : Nat} (h : o ∈ [1, 2, 3, 7, 8]) (n : Int) (c : Cm) : (cmA c).setIfInBounds o (.int .i64 n) = cmA (setC o n c) := by
  simp only [List.mem_cons, List.not_mem_nil, or_false] at h
  rcases h with rfl | rfl | rfl | rfl | rfl <;> rfl
/-- where the words and the places lie. -/
structure RdAt (w wc : World) (g8 b5 o5 : Nat) (A9 : Option Addr) (k0 : List UInt8) (ws : List (List UInt8)) (F : List Nat) (c1 : Cm) : Prop where
  words : b5 ≠ g8 ∧ ∀ j x, (k0 :: ws)[j]? = some x → wc.cell? ⟨b5, o5 + j, none⟩ = some (.string (bs x))
  places : ∀ j o, F[j]? = some o → ∃ b9, A9 = some ⟨b9, 0, none⟩ ∧ b9 ≠ g8 ∧ wc.cell? ⟨b9, j, none⟩ = some (.pointer (some ⟨g8, o, none⟩))
  blk : Blk wc g8 25 (cmA c1)
  res : Blk wc w.heap.size 25 #[.int .i64 0, .int .i64 0, .int .i64 0, .int .i64 0, .int .i64 0, .int .i64 0, .int .i64 0, .int .i64 0, .int .i64 0, .int .i64 0, .bool false]
  below : Below w.heap.size w wc
theorem RdAt.next {w wc w' : World} {g8 b5 o5 : Nat} {A9 : Option Addr} {k0 : List UInt8} {ws : List (List UInt8)} {F : List Nat} {c1 : Cm} (h : RdAt w wc g8 b5 o5 A9 k0 ws F c1) (hb : Below wc.heap.size wc w') : RdAt w w' g8 b5 o5 A9 k0 ws F c1 :=
  ⟨⟨h.words.1, fun j x hx => cell_of (h.words.2 j x hx) hb⟩, fun j o ho => by obtain ⟨b9, e1, e2, e3⟩ := h.places j o ho; exact ⟨b9, e1, e2, cell_of e3 hb⟩, h.blk.below hb h.blk.lt, h.res.below hb h.res.lt, h.below.trans (hb.mono h.below.size)⟩
theorem RdAt.put {w wc : World} {g8 b5 o5 : Nat} {A9 : Option Addr} {k0 : List UInt8} {ws : List (List UInt8)} {F : List Nat} {c1 : Cm} (h : RdAt w wc g8 b5 o5 A9 k0 ws F c1) (hg : w.heap.size < g8) {o : Nat} (ho : o ∈ [1, 2, 3, 7, 8]) (n : Int) : RdAt w (wc.setCell ⟨g8, o, none⟩ (.int .i64 n)) g8 b5 o5 A9 k0 ws F (setC o n c1) := by
  refine ⟨⟨h.words.1, fun j x hx => ?_⟩, fun j o' ho' => ?_, ?_, h.res.far (by show w.heap.size ≠ g8; omega) _, h.below.setCell (by show w.heap.size ≤ g8; omega) _⟩
  · rw [World.cell?_setCell_far _ _ _ _ (fun e => h.words.1 e.symm)]; exact h.words.2 j x hx
  · obtain ⟨b9, e1, e2, e3⟩ := h.places j o' ho'
    exact ⟨b9, e1, e2, by rw [World.cell?_setCell_far _ _ _ _ (fun e => e2 e.symm)]; exact e3⟩
  · have := h.blk.set_ o (.int .i64 n)
    rwa [cmA_set ho] at this
def RdCut (w : World) (g8 : Nat) (s : List UInt8) (s5 s9 : Value) (wc : World) : Prop :=
  ∃ (F : List Nat) (k0 : List UInt8) (ws : List (List UInt8)) (c0 : Cm) (b5 o5 : Nat) (A9 : Option Addr) (c5 c9 : Nat), s5 = .slice (some ⟨b5, o5, none⟩) (ws.length + 1) c5 ∧ s9 = .slice A9 F.length c9 ∧ RdAt w wc g8 b5 o5 A9 k0 ws F c0 ∧
    (∀ o ∈ F, o ∈ [1, 2, 3, 7, 8]) ∧ (∀ l ∈ ws, l.length ≤ 281474976710656) ∧ ws.length ≤ 40000 ∧ F.length ≤ 8 ∧ readOf s = finL F ws c0
/-- the region of an order's kind: the row of words, and the command's own block. -/
structure X20 (g8 B sl : Nat) (M : List (List UInt8)) (c1 c2 : Cm) (L : Nat → Bool) (g : Nat → Value) (w : World) : Prop where
  f : L 0 = true → ∃ b, B ≤ b ∧ g sl = .slice (some ⟨b, 0, none⟩) M.length M.length ∧ ∀ j, j < M.length → w.cell? ⟨b, j, none⟩ = some (.string (bs (M.getD j [])))
  b : Blk w g8 25 (cmA (if L 6 = true then c2 else c1))
theorem X20.keep {g8 B sl : Nat} {M : List (List UInt8)} {c1 c2 : Cm} {L : Nat → Bool} {g : Nat → Value} {w w' : World} (h : X20 g8 B sl M c1 c2 L g w) (hb : Below w.heap.size w w') {i : Nat} {d : Option Tmp} {v : Value} (h0 : i ≠ 0 ∧ i ≠ 6) (h5 : d ≠ some sl) : X20 g8 B sl M c1 c2 (updL L i) (upd g d v) w' := by
  refine ⟨fun hl => ?_, ?_⟩
  · rw [updL_ne (Ne.symm h0.1)] at hl
    rw [upd_ne h5]
    obtain ⟨b, e0, e1, e2⟩ := h.f hl
    exact ⟨b, e0, e1, fun j hj => cell_of (e2 j hj) hb⟩
  · rw [updL_ne (Ne.symm h0.2)]; exact h.b.below hb h.b.lt
theorem X20.got {g8 B sl : Nat} {M : List (List UInt8)} {c1 c2 : Cm} {L : Nat → Bool} {g : Nat → Value} {w : World} (h : X20 g8 B sl M c1 c2 L g w) (hB : B ≤ w.heap.size) : X20 g8 B sl M c1 c2 (updL L 0) (upd g (some sl) (.slice (some ⟨w.heap.size, 0, none⟩) M.length M.length)) (w.alloc (.cells (strs M).toArray 9)) := by
  refine ⟨fun _ => ⟨w.heap.size, hB, upd_self, fun j hj => ?_⟩, ?_⟩
  · refine vcell _ _ _ _ ?_
    simp [List.getD, hj]
  · rw [updL_ne (by decide)]; exact h.b.alloc _
theorem X20.put {g8 B sl : Nat} {M : List (List UInt8)} {c1 c2 : Cm} {L : Nat → Bool} {g : Nat → Value} {w : World} (h : X20 g8 B sl M c1 c2 L g w) (hg : g8 < B) (hl : L 6 = false) {o : Nat} {u : Value} (hc : (cmA c1).setIfInBounds o u = cmA c2) (v : Value) : X20 g8 B sl M c1 c2 (updL L 6) (upd g none v) (w.setCell ⟨g8, o, none⟩ u) := by
  rw [upd_none]
  refine ⟨fun hl => ?_, ?_⟩
  · rw [updL_ne (by decide)] at hl
    obtain ⟨b, e0, e1, e2⟩ := h.f hl
    exact ⟨b, e0, e1, fun j hj => by rw [World.cell?_setCell_far _ _ _ _ (by show g8 ≠ b; omega)]; exact e2 j hj⟩
  · have := h.b
    rw [hl] at this
    have := (show Blk w g8 25 (cmA c1) from this).set_ o u
    rw [hc] at this
    rw [if_pos updL_self]; exact this
/-- an order's words, behind the look for 'reduce'. -/
def RdPl (w : World) (g8 B : Nat) (s : List UInt8) (k : Int) (kw : List UInt8) (r : List (List UInt8)) (v5 : Value) (wr : World) : Prop :=
  ∃ (A : Option Addr) (n c' : Nat) (red : Bool) (M : List (List UInt8)), v5 = .slice A n c' ∧ Rd wr B 1 A n c' (strs M) ∧ M.length = n ∧ (∀ l ∈ M, l ∈ kw :: r) ∧ Blk wr g8 25 (cmA { zeroCm with kind := k, reduce := red }) ∧ Blk wr w.heap.size 25 #[.int .i64 0, .int .i64 0, .int .i64 0, .int .i64 0, .int .i64 0, .int .i64 0, .int .i64 0, .int .i64 0, .int .i64 0, .int .i64 0, .bool false] ∧ Below w.heap.size w wr ∧ readOf s = ansW (orderW red M)
set_option maxHeartbeats 4000000 in
set_option maxRecDepth 100000 in
theorem refRead_any (s : List UInt8) (hs : s.length ≤ 20000) (w : World) (he : EnvF w) : Calls Tryd.prog 20 #[.string (bs s)] w fun e w' => ∃ (x : Cm) (k : Int), e = .returned (.tuple #[cmV x, .int .i64 k]) ∧ readOf s = (x, k) ∧ Below w.heap.size w w' := by
  have HE := Lib.hid he
  clear he
  unfold cmV
  obtain ⟨kw, r, hsp⟩ : ∃ kw r, spl 32 s = kw :: r := by
    cases h : spl 32 s with
    | nil => exact absurd h (spl_ne 32 s)
    | cons a b => exact ⟨a, b, rfl⟩
  have HP := Lib.hid (show readOf s = ansW (readWords (kw :: r)) by rw [readOf_eq, hsp])
  have HLN := Lib.hid (show r.length ≤ 40000 by have := (spl_small 32 s).1; rw [hsp] at this; simp at this; omega)
  have HSM := Lib.hid (show ∀ l ∈ kw :: r, l.length ≤ 281474976710656 by intro l hl; have := (spl_small 32 s).2 l (by rw [hsp]; exact hl); omega)
  go_enter Tryd.func20, Tryd.ntmps20
  go_upto_region 2 with (fail)
  refine wp_nameT ?_
  intro w1 hw1
  have hb1 : Below w.heap.size w w1 := by rw [hw1]; exact (Below.refl _ _).alloc (Nat.le_refl _) _
  have X1 : Blk w1 w.heap.size 25 #[.int .i64 0, .int .i64 0, .int .i64 0, .int .i64 0, .int .i64 0, .int .i64 0, .int .i64 0, .int .i64 0, .int .i64 0, .int .i64 0, .bool false] := by rw [hw1]; exact Blk.new w _ _
  clear hw1
  have HX1 := Lib.hid X1
  have x1 := X1.lt
  have HB1 := Lib.hid hb1
  clear X1
  have hS := split_any s hs w1 (HE.out.next hb1).env
  rw [hsp] at hS
  have HS := Lib.hid hS
  clear hsp hS hb1 hs
  go_upto_region 3 with (go_at_call 33; refine HS.out.mono ?_; rintro e w2 ⟨A, c, rfl, hown, hb2⟩)
  refine wp_nameT ?_
  intro W hW
  rw [← hW] at hown hb2
  clear hW
  have HR := Lib.hid (Rd.of_own hown)
  have HB := Lib.hid (HB1.out.trans (hb2.mono (by omega)))
  have HX := Lib.hid (HX1.out.below hb2 x1)
  have HEW := Lib.hid (HE.out.next HB.out)
  clear hown hb2 HX1 HB1 HS x1
  obtain ⟨b0, o0, rfl, hb0, hc0⟩ := HR.out.at_ (by simp)
  have HC0 := Lib.hid (fun (W2 : World) (h : Below W.heap.size W W2) => ((h.cell (p := ⟨b0, o0, none⟩) (World.block_lt_of_cell? W _ (hc0 0 _ rfl))).trans (hc0 0 _ rfl)))
  have HS : Hid (∀ W' W'', Below W.heap.size W W' → Below W'.heap.size W' W'' → Below W.heap.size W W'') := Lib.hid (fun W' W'' h1 h2 => below_nextR h2 h1)
  clear hc0
  refine wp_region_inv [16, 17, 18, 19, 20, 6] (RI [none, some (17, .slice (some ⟨b0, o0, none⟩) (r.length + 1) c), some (18, .pointer (some ⟨b0, o0, none⟩)), some (19, .string (bs kw)), some (20, .int .i64 (idxW verbsL kw 0)), some (6, .int .i64 (idxW verbsL kw 0))] (fun W2 => Below W.heap.size W W2) (Xf 16 verbsL)) (mk := ?mk3) ?hmk3 rfl (by kernel_rfl) (by kernel_rfl) ?h03 ?hs3 ?hf3
  case hmk3 =>
    intro g'
    simp only [patch, List.foldl_cons, List.foldl_nil, List.setIfInBounds_toArray, List.set_cons_zero, List.set_cons_succ]
    exact rfl
  case h03 => exact ⟨(Below.refl _ _).drew, fun i d v _ h => (nomatch h), nofun⟩
  case hs3 =>
    refine StepsOK.cons (StepOK.plain rfl ?_) ?_
    · intro L g W2 hR hl hd K hK
      clear hl
      go_simp
      refine (verbs_any W2 (HEW.out.next hR.s)).mono ?_
      rintro e W3 ⟨rfl, hw'⟩
      subst hw'
      go_simp
      refine hK _ _ _ ?_ (hR.stepN rfl (by kernel_rfl) (HS.out W2 _ hR.s ((Below.refl _ _).alloc (Nat.le_refl _) _)) Xf.got)
      first | exact rfl | go_simp
    refine StepsOK.cons (StepOK.plain rfl ?_) ?_
    · intro L g W2 hR hl hd K hK
      clear hl
      go_simp
      refine hK _ _ _ ?_ (hR.stepV rfl rfl (by kernel_rfl) hR.s (hR.x.keep (Below.refl _ _) (by decide) (by decide)))
      first | exact rfl | go_simp
    refine StepsOK.cons (StepOK.plain rfl ?_) ?_
    · intro L g W2 hR hl hd K hK
      have e1 := hR.val 1 rfl (dep hd 1 (by kernel_rfl))
      clear hl
      go_simp
      refine hK _ _ _ ?_ (hR.stepV rfl rfl (by kernel_rfl) hR.s (hR.x.keep (Below.refl _ _) (by decide) (by decide)))
      first | exact rfl | go_simp
    refine StepsOK.cons (StepOK.plain rfl ?_) ?_
    · intro L g W2 hR hl hd K hK
      have e2 := hR.val 2 rfl (dep hd 2 (by kernel_rfl))
      have hc := HC0.out W2 hR.s
      clear hl
      go_simp
      refine hK _ _ _ ?_ (hR.stepV rfl rfl (by kernel_rfl) hR.s (hR.x.keep (Below.refl _ _) (by decide) (by decide)))
      first | exact rfl | go_simp
    refine StepsOK.cons (StepOK.plain rfl ?_) ?_
    · intro L g W2 hR hl hd K hK
      have e3 := hR.val 3 rfl (dep hd 3 (by kernel_rfl))
      obtain ⟨b, e0, hcs⟩ := hR.x (dep hd 0 (by kernel_rfl))
      have HI := Lib.hid (strIdx_any verbsL b verbsL.length kw (by decide) W2 hcs)
      clear hl hcs
      go_simp
      refine HI.out.mono ?_
      rintro e W3 ⟨rfl, rfl⟩
      go_simp
      refine hK _ _ _ ?_ (hR.stepV rfl rfl (by kernel_rfl) hR.s (hR.x.keep (Below.refl _ _) (by decide) (by decide)))
      first | exact rfl | go_simp
    refine StepsOK.cons (StepOK.plain rfl ?_) ?_
    · intro L g W2 hR hl hd K hK
      have e4 := hR.val 4 rfl (dep hd 4 (by kernel_rfl))
      clear hl
      go_simp
      refine hK _ _ _ ?_ (hR.stepV rfl rfl (by kernel_rfl) hR.s (hR.x.keep (Below.refl _ _) (by decide) (by decide)))
      first | exact rfl | go_simp
    exact StepsOK.nil
  case hf3 =>
    intro L g W3 hL hR
    have HB3 := Lib.hid (HB.out.trans (hR.s.mono HB.out.size))
    have HX3 := Lib.hid (HX.out.below hR.s HX.out.lt)
    have HR3 := Lib.hid (HR.out.below hR.s)
    have e6 := hR.val 5 rfl (hL 5 (by decide))
    have hs3 := hR.s.size
    clear hR hL HS HC0 HB HX HR
    rcases kindOf_idx kw with ⟨hk0, hlt⟩ | ⟨hk1, hk7, hidx⟩
    · have HZ := Lib.hid (show readOf s = (zeroCm, 1) by rw [HP.out, read_zero r hk0]; rfl)
      clear hk0
      go_wp2_with fail
      refine (refBad_any _).mono ?_
      rintro e W5 ⟨rfl, hb5⟩
      have HX5 := Lib.hid (HX3.out.below hb5 HX3.out.lt)
      have HB5 := Lib.hid (HB3.out.trans (hb5.mono HB3.out.size))
      clear hb5
      obtain ⟨⟨z0, z1, z2, z3, z4, z5, z6, z7, z8, z9, z10⟩, y0, y1, y2, y3, y4, y5, y6, y7, y8, y9, y10⟩ := bl_c11 HX5.out
      have x5 := HX5.out.lt
      go_wp2_with fail
      refine exit_nameT ?_
      intro Z hZ
      obtain ⟨XZ, hbZ⟩ := set11w HX5.out HB5.out (Nat.le_refl _) (.int .i64 0) (.int .i64 0) (.int .i64 0) (.int .i64 0) (.int .i64 0) (.int .i64 0) (.int .i64 0) (.int .i64 0) (.int .i64 0) (.int .i64 0) (.bool false)
      rw [← hZ] at XZ hbZ
      clear hZ z0 z1 z2 z3 z4 z5 z6 z7 z8 z9 z10 y0 y1 y2 y3 y4 y5 y6 y7 y8 y9 y10
      obtain ⟨⟨z0, z1, z2, z3, z4, z5, z6, z7, z8, z9, z10⟩, -⟩ := bl_c11 XZ
      refine bodyPost_ret (v := .tuple #[.agg #[.int .i64 0, .int .i64 0, .int .i64 0, .int .i64 0, .int .i64 0, .int .i64 0, .int .i64 0, .int .i64 0, .int .i64 0, .int .i64 0, .bool false], .int .i64 1]) (by simp [results, Tryd.results20, go_sem, *]) rfl ?_
      exact ⟨zeroCm, 1, rfl, HZ.out, hbZ⟩
    rw [hidx] at e6
    have hn1 : ¬ kindOf kw < 1 := by omega
    clear hidx
    generalize hkk : kindOf kw = k at e6 hk1 hk7 hn1
    have HKK := Lib.hid hkk
    have HK1 := Lib.hid (And.intro hk1 hk7)
    clear hkk hk1 hk7
    go_upto_region 9 with (fail)
    refine wp_nameT ?_
    intro W9 hW9
    have X9 : Blk W9 W3.heap.size 25 #[.int .i64 k, .int .i64 0, .int .i64 0, .int .i64 0, .int .i64 0, .int .i64 0, .int .i64 0, .int .i64 0, .int .i64 0, .int .i64 0, .bool false] ∧ Blk W9 (W3.heap.size + 1) 86 #[.pointer (some ⟨W3.heap.size, 1, none⟩), .pointer (some ⟨W3.heap.size, 3, none⟩)] ∧ Below W3.heap.size W3 W9 := by
      rw [hW9]
      have h1 := Blk.new (W3.alloc (.cells #[.int .i64 k, .int .i64 0, .int .i64 0, .int .i64 0, .int .i64 0, .int .i64 0, .int .i64 0, .int .i64 0, .int .i64 0, .int .i64 0, .bool false] 25)) 86 #[.pointer (some ⟨W3.heap.size, 1, none⟩), .pointer (some ⟨W3.heap.size, 3, none⟩)]
      rw [show (W3.alloc (.cells #[.int .i64 k, .int .i64 0, .int .i64 0, .int .i64 0, .int .i64 0, .int .i64 0, .int .i64 0, .int .i64 0, .int .i64 0, .int .i64 0, .bool false] 25)).heap.size = W3.heap.size + 1 by simp] at h1
      exact ⟨(Blk.new W3 _ _).alloc _, h1, ((Below.refl _ _).alloc (Nat.le_refl _) _).alloc (by simp) _⟩
    clear hW9
    obtain ⟨XC9, XP9, hb9⟩ := X9
    have HX9 := Lib.hid (HX3.out.below hb9 HX3.out.lt)
    have HB9 := Lib.hid (HB3.out.trans (hb9.mono HB3.out.size))
    have HR9 := Lib.hid (HR3.out.below (hb9.mono hs3))
    have HXC := Lib.hid XC9
    have HXP := Lib.hid XP9
    have s9 := hb9.size
    have hg2 : w.heap.size < W3.heap.size := HX3.out.lt
    have HW9 := Lib.hid (fun (j : Nat) (x : List UInt8) (h : (kw :: r)[j]? = some x) => word_at HR9.out h)
    clear HX3 HB3 HR3 XC9 XP9 hb9 hn1
    iterate 7 (go_step)
    simp only [e6]
    clear e6
    go_cut [5, 9] from 14 (fun v5 v9 wr => RdCut w W3.heap.size s v5 v9 wr)
    case first =>
      have hk1 := HK1.out
      by_cases e7 : k = 7
      · have d7 : (k == 7) = true := by simp [e7]
        have H7 := Lib.hid e7
        clear e7 hk1
        go_wp2_with fail
        go_meet
        case rel => exact ⟨[], kw, r, { zeroCm with kind := k }, b0, o0, none, c, 0, rfl, rfl, ⟨⟨by omega, HW9.out⟩, nofun, HXC.out, HX9.out, HB9.out⟩, nofun, fun l hl => HSM.out l (List.mem_cons_of_mem _ hl), HLN.out, by decide, by rw [HP.out, H7.out]; exact fin_seven r (HKK.out.trans H7.out)⟩
      have d7 : (k == 7) = false := by simp [e7]
      have HTW := Lib.hid (fun (h3 : k ≠ 3) => show readOf s = finL (if isMkt k then [2, 3] else [1, 3]) r { zeroCm with kind := k } by rw [HP.out, ← HKK.out]; exact fin_two r (by rw [HKK.out]; omega) (by rw [HKK.out]; exact h3) (by rw [HKK.out]; exact e7))
      by_cases e5 : k = 5
      · have d5 : (k == 5) = true := by simp [e5]
        have HM := Lib.hid (show isMkt k = true by rw [e5]; rfl)
        have HT3 := Lib.hid (HTW.out (by omega))
        clear d7 hk1 e7 e5
        go_wp2_with fail
        go_meet
        case rel =>
          have hb := (Below.refl W9.heap.size W9).alloc (Nat.le_refl _) (.cells #[.pointer (some ⟨W3.heap.size, 2, none⟩), .pointer (some ⟨W3.heap.size, 3, none⟩)] 86)
          have hg9 := HXC.out.lt
          refine ⟨[2, 3], kw, r, { zeroCm with kind := k }, b0, o0, some ⟨W9.heap.size, 0, none⟩, c, 2, rfl, rfl, ⟨⟨by omega, fun j x h => cell_of (HW9.out j x h) hb⟩, two_at (Blk.new _ _ _) (by omega), HXC.out.alloc _, HX9.out.alloc _, HB9.out.trans (hb.mono HB9.out.size)⟩, by decide, fun l hl => HSM.out l (List.mem_cons_of_mem _ hl), HLN.out, by decide, ?_⟩
          rw [HT3.out, HM.out]; rfl
      have d5 : (k == 5) = false := by simp [e5]
      by_cases e6' : k = 6
      · have d6 : (k == 6) = true := by simp [e6']
        have HM := Lib.hid (show isMkt k = true by rw [e6']; rfl)
        have HT3 := Lib.hid (HTW.out (by omega))
        clear d7 hk1 e7 e5 e6'
        go_wp2_with fail
        go_meet
        case rel =>
          have hb := (Below.refl W9.heap.size W9).alloc (Nat.le_refl _) (.cells #[.pointer (some ⟨W3.heap.size, 2, none⟩), .pointer (some ⟨W3.heap.size, 3, none⟩)] 86)
          have hg9 := HXC.out.lt
          refine ⟨[2, 3], kw, r, { zeroCm with kind := k }, b0, o0, some ⟨W9.heap.size, 0, none⟩, c, 2, rfl, rfl, ⟨⟨by omega, fun j x h => cell_of (HW9.out j x h) hb⟩, two_at (Blk.new _ _ _) (by omega), HXC.out.alloc _, HX9.out.alloc _, HB9.out.trans (hb.mono HB9.out.size)⟩, by decide, fun l hl => HSM.out l (List.mem_cons_of_mem _ hl), HLN.out, by decide, ?_⟩
          rw [HT3.out, HM.out]; rfl
      have d6 : (k == 6) = false := by simp [e6']
      by_cases e3 : k = 3
      · have d3 : (k == 3) = true := by simp [e3]
        have HQ := Lib.hid (show readOf s = ansW (orderQ (kw :: r)) by rw [HP.out, read_three r (HKK.out.trans e3)])
        have H3 := Lib.hid e3
        clear hk1 e7 e5 e6' e3
        go_upto_if 41 with (fail)
        go_step
        go_step
        have hsw := hs3
        go_cut [5] from 14 (fun v5 wr => RdPl w W3.heap.size W.heap.size s k kw r v5 wr)
        case first =>
          by_cases h7 : r.length = 7
          · obtain ⟨x7, hx7⟩ : ∃ x, r[6]? = some x := ⟨_, List.getElem?_eq_getElem (by omega)⟩
            have hc7 := HW9.out 7 x7 (by simpa using hx7)
            by_cases hx : x7 = wReduce
            · have dq : ((bs x7).toList == [114, 101, 100, 117, 99, 101]) = true := by rw [bs_cmpL]; exact decide_eq_true hx
              obtain ⟨A7, hcut7, hr7⟩ := cut_h elem_st HR9.out 7 (by simp; omega)
              have HR7 := Lib.hid hr7
              have HQ2 := Lib.hid (show readOf s = ansW (orderW true ((kw :: r).take 7)) by rw [HQ.out]; unfold orderQ; rw [if_pos ⟨by simp; omega, by rw [← hx]; simpa using hx7⟩])
              have hb10 := HXC.out.cell 10
              have hf10 := HXC.out.frozen 10
              have hcs : ∀ w', (Instr.slice 58 (.slice (some ⟨b0, o0, none⟩) 8 c) none (some (.int .i64 7)) none).run Tryd.prog w' = .ok (.slice A7 7 c) w' := by
                rw [show (kw :: r).length = 8 by simp; omega] at hcut7; exact hcut7
              have HL7 := Lib.hid (show ((kw :: r).take 7).length = 7 by simp; omega)
              clear hx hx7 hr7 hcut7
              go_upto_region 17 with (fail)
              go_region
              all_goals
                go_wp2_with fail
                go_meet
                case rel =>
                  refine ⟨A7, 7, c, true, (kw :: r).take 7, rfl, ?_, HL7.out, fun l hl => List.mem_of_mem_take hl, ?_, ?_, ?_, HQ2.out⟩
                  · have := HR7.out
                    rw [show (strs (kw :: r)).take (7 * 1) = strs ((kw :: r).take 7) by unfold strs; rw [List.map_take]] at this
                    exact this.below (((Below.refl _ W9).setCell (by show W.heap.size ≤ W3.heap.size; exact hsw) _).drew)
                  · have := HXC.out.set_ 10 (.bool true)
                    exact blk_drewT this
                  · exact blk_drewT (HX9.out.far (by show w.heap.size ≠ W3.heap.size; omega) _)
                  · exact (HB9.out.setCell (by show w.heap.size ≤ W3.heap.size; omega) _).drew
            · have dq : ((bs x7).toList == [114, 101, 100, 117, 99, 101]) = false := by rw [bs_cmpL]; exact decide_eq_false hx
              have HQ2 := Lib.hid (show readOf s = ansW (orderW false (kw :: r)) by rw [HQ.out]; unfold orderQ; rw [if_neg (fun h => hx (by have := h.2; simp only [List.getElem?_cons_succ] at this; rw [hx7] at this; injection this))])
              have HL8 := Lib.hid (show (kw :: r).length = 8 by simp; omega)
              clear hx hx7
              go_wp2_with fail
              go_meet
              case rel => exact ⟨_, _, _, false, kw :: r, rfl, by have := HR9.out; rw [HL8.out] at this; exact this, HL8.out, fun l hl => hl, HXC.out, HX9.out, HB9.out, HQ2.out⟩
          · have dl : ((r.length : Int) + 1 == 8) = false := by simp; omega
            have HQ2 := Lib.hid (show readOf s = ansW (orderW false (kw :: r)) by rw [HQ.out]; unfold orderQ; rw [if_neg (fun h => h7 (by have := h.1; simp at this; omega))])
            clear h7
            go_wp2_with fail
            go_meet
            case rel => exact ⟨_, _, _, false, kw :: r, rfl, HR9.out, rfl, fun l hl => hl, HXC.out, HX9.out, HB9.out, HQ2.out⟩
        case rest =>
          clear HXC HXP HX9 HB9 HR9 HW9 HP HQ HTW
          obtain ⟨A, n, c', red, M, rfl, hrd, hlM, hmem, hblk, hres, hbel, hread⟩ := hcut
          have HXC := Lib.hid hblk
          have HX4 := Lib.hid hres
          have HB4 := Lib.hid hbel
          have HRD := Lib.hid hread
          by_cases h7 : n = 7
          rotate_left
          · have HZ := Lib.hid (show readOf s = (zeroCm, 1) by rw [hread, orderW_len (by omega)]; rfl)
            have dl : ((n : Int) != 7) = true := by simp; omega
            clear h7 hrd hlM hmem hblk hres hbel hread
            go_wp2_with fail
            refine (refBad_any _).mono ?_
            rintro e W5 ⟨rfl, hb5⟩
            have HX5 := Lib.hid (HX4.out.below hb5 HX4.out.lt)
            have HB5 := Lib.hid (HB4.out.trans (hb5.mono HB4.out.size))
            clear hb5
            obtain ⟨⟨z0, z1, z2, z3, z4, z5, z6, z7, z8, z9, z10⟩, y0, y1, y2, y3, y4, y5, y6, y7, y8, y9, y10⟩ := bl_c11 HX5.out
            have x5 := HX5.out.lt
            go_wp2_with fail
            refine exit_nameT ?_
            intro Z hZ
            obtain ⟨XZ, hbZ⟩ := set11w HX5.out HB5.out (Nat.le_refl _) (.int .i64 0) (.int .i64 0) (.int .i64 0) (.int .i64 0) (.int .i64 0) (.int .i64 0) (.int .i64 0) (.int .i64 0) (.int .i64 0) (.int .i64 0) (.bool false)
            rw [← hZ] at XZ hbZ
            clear hZ z0 z1 z2 z3 z4 z5 z6 z7 z8 z9 z10 y0 y1 y2 y3 y4 y5 y6 y7 y8 y9 y10
            obtain ⟨⟨z0, z1, z2, z3, z4, z5, z6, z7, z8, z9, z10⟩, -⟩ := bl_c11 XZ
            refine bodyPost_ret (v := .tuple #[.agg #[.int .i64 0, .int .i64 0, .int .i64 0, .int .i64 0, .int .i64 0, .int .i64 0, .int .i64 0, .int .i64 0, .int .i64 0, .int .i64 0, .bool false], .int .i64 1]) (by simp [results, Tryd.results20, go_sem, *]) rfl ?_
            exact ⟨zeroCm, 1, rfl, HZ.out, hbZ⟩
          subst h7
          obtain ⟨w0, w1', w2', w3', w4', w5', w6', rfl⟩ := list_seven hlM
          obtain ⟨bb, oo, rfl, hbb, hcc⟩ := hrd.at_ (by omega)
          have q0 : wc.cell? ⟨bb, oo, none⟩ = some (.string (bs w0)) := hcc 0 _ rfl
          have q1 : wc.cell? ⟨bb, oo + 1, none⟩ = some (.string (bs w1')) := hcc 1 _ rfl
          have q2 : wc.cell? ⟨bb, oo + 2, none⟩ = some (.string (bs w2')) := hcc 2 _ rfl
          have q3 : wc.cell? ⟨bb, oo + 3, none⟩ = some (.string (bs w3')) := hcc 3 _ rfl
          have q4 : wc.cell? ⟨bb, oo + 4, none⟩ = some (.string (bs w4')) := hcc 4 _ rfl
          have q5 : wc.cell? ⟨bb, oo + 5, none⟩ = some (.string (bs w5')) := hcc 5 _ rfl
          have q6 : wc.cell? ⟨bb, oo + 6, none⟩ = some (.string (bs w6')) := hcc 6 _ rfl
          have HMM := Lib.hid hmem
          have HQW := Lib.hid (fun (W2 : World) (h : Below W3.heap.size wc W2) (j : Nat) (x : List UInt8) (hx : [w0, w1', w2', w3', w4', w5', w6'][j]? = some x) => ((h.cell (p := ⟨bb, oo + j, none⟩) (show bb < W3.heap.size by omega)).trans (hcc j _ (strs_at hx))))
          clear hrd hlM hmem hblk hres hbel hread hcc q0 q1 q2 q3 q4 q5 q6
          go_upto_region 20 with (fail)
          have hgc : W3.heap.size < wc.heap.size := HXC.out.lt
          have HG := Lib.hid hgc
          have HEC := Lib.hid (HE.out.next HB4.out)
          have HB2 := Lib.hid hg2
          have HHI := Lib.hid (howOf_idx w6')
          have HS : Hid (∀ W' W'', Below W3.heap.size wc W' → Below W'.heap.size W' W'' → Below W3.heap.size wc W'') := Lib.hid (fun W' W'' h1 h2 => h1.trans (h2.mono (Nat.le_trans (Nat.le_of_lt hgc) h1.size)))
          have HE8 := Lib.hid (show 8 ≤ W3.heap.size by have := HE.out.env.low; omega)
          clear hgc
          refine wp_region_inv [62, 63, 64, 65, 66, 67] (RI [none, some (63, .slice (some ⟨bb, oo, none⟩) 7 c'), some (64, .pointer (some ⟨bb, oo + 6, none⟩)), some (65, .string (bs w6')), some (66, .int .i64 (idxW sortsL w6' 0)), some (67, .pointer (some ⟨W3.heap.size, 9, none⟩)), none] (fun W2 => Below W3.heap.size wc W2) (X20 W3.heap.size wc.heap.size 62 sortsL { zeroCm with kind := k, reduce := red } { zeroCm with kind := k, reduce := red, how := idxW sortsL w6' 0 })) (mk := ?mk20) ?hmk20 rfl (by kernel_rfl) (by kernel_rfl) ?h020 ?hs20 ?hf20
          case hmk20 =>
            intro g'
            simp only [patch, List.foldl_cons, List.foldl_nil, List.setIfInBounds_toArray, List.set_cons_zero, List.set_cons_succ]
            exact rfl
          case h020 => exact ⟨(Below.refl _ _).drew, fun i d v _ h => (nomatch h), ⟨nofun, HXC.out⟩⟩
          case hs20 =>
            refine StepsOK.cons (StepOK.plain rfl ?_) ?_
            · intro L g W2 hR hl hd K hK
              clear hl
              go_simp
              refine (sorts_any W2 (HEC.out.below hR.s HE8.out)).mono ?_
              rintro e W5 ⟨rfl, hw'⟩
              subst hw'
              go_simp
              refine hK _ _ _ ?_ (hR.stepN rfl (by kernel_rfl) (HS.out W2 _ hR.s ((Below.refl _ _).alloc (Nat.le_refl _) _)) (hR.x.got hR.s.size))
              first | exact rfl | go_simp
            refine StepsOK.cons (StepOK.plain rfl ?_) ?_
            · intro L g W2 hR hl hd K hK
              clear hl
              go_simp
              refine hK _ _ _ ?_ (hR.stepV rfl rfl (by kernel_rfl) hR.s (hR.x.keep (Below.refl _ _) (by decide) (by decide)))
              first | exact rfl | go_simp
            refine StepsOK.cons (StepOK.plain rfl ?_) ?_
            · intro L g W2 hR hl hd K hK
              have e1 := hR.val 1 rfl (dep hd 1 (by kernel_rfl))
              clear hl
              go_simp
              refine hK _ _ _ ?_ (hR.stepV rfl rfl (by kernel_rfl) hR.s (hR.x.keep (Below.refl _ _) (by decide) (by decide)))
              first | exact rfl | go_simp
            refine StepsOK.cons (StepOK.plain rfl ?_) ?_
            · intro L g W2 hR hl hd K hK
              have e2 := hR.val 2 rfl (dep hd 2 (by kernel_rfl))
              have hc := HQW.out W2 hR.s 6 _ rfl
              clear hl
              go_simp
              refine hK _ _ _ ?_ (hR.stepV rfl rfl (by kernel_rfl) hR.s (hR.x.keep (Below.refl _ _) (by decide) (by decide)))
              first | exact rfl | go_simp
            refine StepsOK.cons (StepOK.plain rfl ?_) ?_
            · intro L g W2 hR hl hd K hK
              have e3 := hR.val 3 rfl (dep hd 3 (by kernel_rfl))
              obtain ⟨b, -, e0, hcs⟩ := hR.x.f (dep hd 0 (by kernel_rfl))
              have HI := Lib.hid (strIdx_any sortsL b sortsL.length w6' (by decide) W2 hcs)
              clear hl hcs
              go_simp
              refine HI.out.mono ?_
              rintro e W5 ⟨rfl, rfl⟩
              go_simp
              refine hK _ _ _ ?_ (hR.stepV rfl rfl (by kernel_rfl) hR.s (hR.x.keep (Below.refl _ _) (by decide) (by decide)))
              first | exact rfl | go_simp
            refine StepsOK.cons (StepOK.plain rfl ?_) ?_
            · intro L g W2 hR hl hd K hK
              clear hl
              go_simp
              refine hK _ _ _ ?_ (hR.stepV rfl rfl (by kernel_rfl) hR.s (hR.x.keep (Below.refl _ _) (by decide) (by decide)))
              first | exact rfl | go_simp
            refine StepsOK.cons (StepOK.plain rfl ?_) ?_
            · intro L g W2 hR hl hd K hK
              have e4 := hR.val 4 rfl (dep hd 4 (by kernel_rfl))
              have e5 := hR.val 5 rfl (dep hd 5 (by kernel_rfl))
              have hx := hR.x.put HG.out hl (o := 9) (u := .int .i64 (idxW sortsL w6' 0)) rfl undef
              have hbk := hR.x.b
              rw [hl] at hbk
              have hfz := hbk.frozen 9
              have hcl := hbk.cell 9
              have hS := hR.s.setCell (p := ⟨W3.heap.size, 9, none⟩) (Nat.le_refl _) (.int .i64 (idxW sortsL w6' 0))
              clear hl hbk
              go_simp
              refine hK _ undef _ ?_ (hR.stepN rfl (by kernel_rfl) hS hx)
              first | exact rfl | go_simp
            exact StepsOK.nil
          case hf20 =>
            intro L' g' W4 hL hR
            have hb4 := hR.s
            have HXC4 := Lib.hid (show Blk W4 W3.heap.size 25 (cmA { zeroCm with kind := k, reduce := red, how := idxW sortsL w6' 0 }) by have := hR.x.b; rw [hL 6 (by decide)] at this; exact this)
            have HX5 := Lib.hid (HX4.out.below hb4 (by omega))
            have HB5 := Lib.hid (HB4.out.trans (hb4.mono (by omega)))
            have hq3 := HQW.out W4 hb4 3 _ rfl
            have HB4' := Lib.hid hb4
            clear hR hL HS HX4 HB4 HXC hb4
            have hc9 : W4.cell? ⟨W3.heap.size, 9, none⟩ = some (.int .i64 (idxW sortsL w6' 0)) := HXC4.out.cell 9
            rcases HHI.out with ⟨hh0, hlt⟩ | ⟨hh1, hh4, hidx⟩
            · have HZ := Lib.hid (show readOf s = (zeroCm, 1) by rw [HRD.out, order_how red hh0]; rfl)
              clear hh0 hq3 HHI
              go_wp2_with fail
              refine (refBad_any _).mono ?_
              rintro e W5 ⟨rfl, hb5⟩
              have HX5 := Lib.hid (HX5.out.below hb5 HX5.out.lt)
              have HB5 := Lib.hid (HB5.out.trans (hb5.mono HB5.out.size))
              clear hb5
              obtain ⟨⟨z0, z1, z2, z3, z4, z5, z6, z7, z8, z9, z10⟩, y0, y1, y2, y3, y4, y5, y6, y7, y8, y9, y10⟩ := bl_c11 HX5.out
              have x5 := HX5.out.lt
              go_wp2_with fail
              refine exit_nameT ?_
              intro Z hZ
              obtain ⟨XZ, hbZ⟩ := set11w HX5.out HB5.out (Nat.le_refl _) (.int .i64 0) (.int .i64 0) (.int .i64 0) (.int .i64 0) (.int .i64 0) (.int .i64 0) (.int .i64 0) (.int .i64 0) (.int .i64 0) (.int .i64 0) (.bool false)
              rw [← hZ] at XZ hbZ
              clear hZ z0 z1 z2 z3 z4 z5 z6 z7 z8 z9 z10 y0 y1 y2 y3 y4 y5 y6 y7 y8 y9 y10
              obtain ⟨⟨z0, z1, z2, z3, z4, z5, z6, z7, z8, z9, z10⟩, -⟩ := bl_c11 XZ
              refine bodyPost_ret (v := .tuple #[.agg #[.int .i64 0, .int .i64 0, .int .i64 0, .int .i64 0, .int .i64 0, .int .i64 0, .int .i64 0, .int .i64 0, .int .i64 0, .int .i64 0, .bool false], .int .i64 1]) (by simp [results, Tryd.results20, go_sem, *]) rfl ?_
              exact ⟨zeroCm, 1, rfl, HZ.out, hbZ⟩
            rw [hidx] at hc9 HXC4
            have hn1 : ¬ howOf w6' < 1 := by omega
            have HN0 := Lib.hid (show howOf w6' ≠ 0 by omega)
            clear hh1 hh4 hidx HHI
            go_upto_if 70 with (fail)
            iterate 5 (go_step)
            go_cut [] from 14 (fun wr => W4 = wr ∧ (w3' = wBuy ∨ w3' = wSell))
            case first =>
              by_cases hbuy : w3' = wBuy
              · have dq1 : ((bs w3').toList == [98, 117, 121]) = true := by rw [bs_cmpL]; exact decide_eq_true hbuy
                have HB_ := Lib.hid hbuy
                clear hbuy
                go_wp2_with fail
                go_meet
                case rel => exact ⟨rfl, .inl HB_.out⟩
              · have dq1 : ((bs w3').toList == [98, 117, 121]) = false := by rw [bs_cmpL]; exact decide_eq_false hbuy
                by_cases hsell : w3' = wSell
                · have dq2 : ((bs w3').toList == [115, 101, 108, 108]) = true := by rw [bs_cmpL]; exact decide_eq_true hsell
                  have HB_ := Lib.hid hsell
                  clear hbuy hsell
                  go_wp2_with fail
                  go_meet
                  case rel => exact ⟨rfl, .inr HB_.out⟩
                · have dq2 : ((bs w3').toList == [115, 101, 108, 108]) = false := by rw [bs_cmpL]; exact decide_eq_false hsell
                  have HZ := Lib.hid (show readOf s = (zeroCm, 1) by rw [HRD.out, order_side red (by unfold sideOfW; rw [if_neg hbuy, if_neg hsell])]; rfl)
                  clear hbuy hsell
                  go_wp2_with fail
                  refine (refBad_any _).mono ?_
                  rintro e W5 ⟨rfl, hb5⟩
                  have HX5 := Lib.hid (HX5.out.below hb5 HX5.out.lt)
                  have HB5 := Lib.hid (HB5.out.trans (hb5.mono HB5.out.size))
                  clear hb5
                  obtain ⟨⟨z0, z1, z2, z3, z4, z5, z6, z7, z8, z9, z10⟩, y0, y1, y2, y3, y4, y5, y6, y7, y8, y9, y10⟩ := bl_c11 HX5.out
                  have x5 := HX5.out.lt
                  go_wp2_with fail
                  refine exit_nameT ?_
                  intro Z hZ
                  obtain ⟨XZ, hbZ⟩ := set11w HX5.out HB5.out (Nat.le_refl _) (.int .i64 0) (.int .i64 0) (.int .i64 0) (.int .i64 0) (.int .i64 0) (.int .i64 0) (.int .i64 0) (.int .i64 0) (.int .i64 0) (.int .i64 0) (.bool false)
                  rw [← hZ] at XZ hbZ
                  clear hZ z0 z1 z2 z3 z4 z5 z6 z7 z8 z9 z10 y0 y1 y2 y3 y4 y5 y6 y7 y8 y9 y10
                  obtain ⟨⟨z0, z1, z2, z3, z4, z5, z6, z7, z8, z9, z10⟩, -⟩ := bl_c11 XZ
                  refine bodyPost_ret (v := .tuple #[.agg #[.int .i64 0, .int .i64 0, .int .i64 0, .int .i64 0, .int .i64 0, .int .i64 0, .int .i64 0, .int .i64 0, .int .i64 0, .int .i64 0, .bool false], .int .i64 1]) (by simp [results, Tryd.results20, go_sem, *]) rfl ?_
                  exact ⟨zeroCm, 1, rfl, HZ.out, hbZ⟩
            case rest =>
              obtain ⟨rfl, hw3⟩ := hcut
              obtain ⟨Wa, ra, ta, ga⟩ := TwoN.put1 (x := wBuy) (y := wSell) (by decide) (by decide) (TwoN.made wBuy wSell W4)
              obtain ⟨Wb, rb, tb, gb⟩ := TwoN.put2 (x := wBuy) (y := wSell) (by decide) (by decide) ta
              have hw3s : (bs w3').size ≤ maxLen := by rcases hw3 with h | h <;> rw [h] <;> decide
              have rl := tb.look w3' hw3s hw3
              have rm : (Instr.makeMap 88 none).run Tryd.prog W4 = .ok (.map (some W4.heap.size)) (W4.alloc (.map #[] 0)) := run_makeMap _ W4
              have ra' : (Instr.mapUpdate 88 (.map (some W4.heap.size)) (.string ⟨#[98, 117, 121]⟩) (.int .i64 1)).run Tryd.prog (W4.alloc (.map #[] 0)) = .ok () Wa := ra
              have rb' : (Instr.mapUpdate 88 (.map (some W4.heap.size)) (.string ⟨#[115, 101, 108, 108]⟩) (.int .i64 (-1))).run Tryd.prog Wa = .ok () Wb := rb
              have hBb : Below W4.heap.size W4 Wb := by
                have h0 := (Below.refl W4.heap.size W4).alloc (Nat.le_refl _) (.map #[] 0)
                have h1 := h0.grown ga h0.size (fun k e => (by injection e with e; omega))
                exact h1.grown gb h1.size (fun k e => (by injection e with e; omega))
              obtain ⟨sd, hsd⟩ : ∃ sd, (if w3' = wBuy then (1 : Int) else -1) = sd := ⟨_, rfl⟩
              rw [hsd] at rl
              have HSD := Lib.hid (show sideOfW w3' = some sd by rw [← hsd]; rcases hw3 with h | h <;> rw [h] <;> rfl)
              have HXb := Lib.hid (HXC4.out.below hBb HXC4.out.lt)
              have HX6 := Lib.hid (HX5.out.below hBb HX5.out.lt)
              have HBb := Lib.hid (HB4'.out.trans (hBb.mono (Nat.le_trans (Nat.le_of_lt HG.out) HB4'.out.size)))
              have HB6 := Lib.hid (HB5.out.trans (hBb.mono HB5.out.size))
              have hqb := HQW.out Wb HBb.out 3 _ rfl
              have hc6 : Wb.cell? ⟨W3.heap.size, 6, none⟩ = some (.int .i64 0) := HXb.out.cell 6
              have hf6 := HXb.out.frozen 6
              clear hn1 hw3 hw3s hsd ra rb ta tb ga gb hBb hq3 hc9
              go_upto_region 26 with (fail)
              refine wp_nameT ?_
              intro W6 hW6
              have HX7 : Hid (Blk W6 W3.heap.size 25 (cmA { zeroCm with kind := k, reduce := red, how := howOf w6', o := { zeroOd with side := sd } })) := by
                rw [hW6]; exact Lib.hid (HXb.out.set_ 6 (.int .i64 sd))
              have HX8 : Hid (Blk W6 w.heap.size 25 #[.int .i64 0, .int .i64 0, .int .i64 0, .int .i64 0, .int .i64 0, .int .i64 0, .int .i64 0, .int .i64 0, .int .i64 0, .int .i64 0, .bool false]) := by rw [hW6]; exact Lib.hid (HX6.out.far (by show w.heap.size ≠ W3.heap.size; have := HB2.out; omega) _)
              have HB8 : Hid (Below w.heap.size w W6) := by rw [hW6]; exact Lib.hid (HB6.out.setCell (by show w.heap.size ≤ W3.heap.size; have := HB2.out; omega) _)
              have HB9 := Lib.hid (HBb.out.setCell (p := ⟨W3.heap.size, 6, none⟩) (Nat.le_refl _) (.int .i64 sd))
              rw [← hW6] at HB9
              clear hW6 rl ra' rb' rm hqb hc6 hf6
              have HS : Hid (∀ W' W'', Below W6.heap.size W6 W' → Below W'.heap.size W' W'' → Below W6.heap.size W6 W'') := Lib.hid (fun W' W'' h1 h2 => below_nextR h2 h1)
              have hg6 : W3.heap.size < W6.heap.size := HX7.out.lt
              have HQ6 := Lib.hid (fun (W2 : World) (h : Below W6.heap.size W6 W2) (j : Nat) (x : List UInt8) (hx : [w0, w1', w2', w3', w4', w5', w6'][j]? = some x) => HQW.out W2 (HB9.out.trans (h.mono (Nat.le_of_lt hg6))) j x hx)
              have HG6 := Lib.hid hg6
              clear hg6
              refine wp_region_inv [97, 98, 99, 100, 101, 102, 103, 104, 105, 106, 107, 108, 109, 110, 111, 112, 5] (RI [some (97, .slice (some ⟨bb, oo, none⟩) 7 c'), some (98, .pointer (some ⟨bb, oo, none⟩)), some (99, .string (bs w0)), some (100, .slice (some ⟨bb, oo, none⟩) 7 c'), some (101, .pointer (some ⟨bb, oo + 1, none⟩)), some (102, .string (bs w1')), some (103, .slice (some ⟨bb, oo, none⟩) 7 c'), some (104, .pointer (some ⟨bb, oo + 2, none⟩)), some (105, .string (bs w2')), some (106, .slice (some ⟨bb, oo, none⟩) 7 c'), some (107, .pointer (some ⟨bb, oo + 4, none⟩)), some (108, .string (bs w4')), some (109, .slice (some ⟨bb, oo, none⟩) 7 c'), some (110, .pointer (some ⟨bb, oo + 5, none⟩)), some (111, .string (bs w5')), none, none] (fun W2 => Below W6.heap.size W6 W2) (X26 W6.heap.size (.slice (some ⟨bb, oo, none⟩) 7 c') #[.string (bs w0), .string (bs w1'), .string (bs w2'), .string (bs w4'), .string (bs w5')])) (mk := ?mk26) ?hmk26 rfl (by kernel_rfl) (by kernel_rfl) ?h026 ?hs26 ?hf26
              case hmk26 =>
                intro g'
                simp only [patch, List.foldl_cons, List.foldl_nil, List.setIfInBounds_toArray, List.set_cons_zero, List.set_cons_succ]
                exact rfl
              case h026 => exact ⟨(Below.refl _ _).drew, fun i d v _ h => (nomatch h), ⟨nofun, nofun, fun j hj _ => rfl⟩⟩
              case hs26 =>
                refine StepsOK.cons (StepOK.plain rfl ?_) ?_
                · intro L g W2 hR hl hd K hK
                  have e5 := hR.x.v 0 (by decide) hl
                  clear hl
                  go_simp
                  refine hK _ _ _ ?_ (hR.stepV rfl rfl (by kernel_rfl) hR.s (hR.x.keep (by decide) (by decide)))
                  first | exact rfl | go_simp
                refine StepsOK.cons (StepOK.plain rfl ?_) ?_
                · intro L g W2 hR hl hd K hK
                  have e0 := hR.val 0 rfl (dep hd 0 (by kernel_rfl))
                  clear hl
                  go_simp
                  refine hK _ _ _ ?_ (hR.stepV rfl rfl (by kernel_rfl) hR.s (hR.x.keep (by decide) (by decide)))
                  first | exact rfl | go_simp
                refine StepsOK.cons (StepOK.plain rfl ?_) ?_
                · intro L g W2 hR hl hd K hK
                  have e1 := hR.val 1 rfl (dep hd 1 (by kernel_rfl))
                  have hc := HQ6.out W2 hR.s 0 _ rfl
                  rw [Nat.add_zero] at hc
                  clear hl
                  go_simp
                  refine hK _ _ _ ?_ (hR.stepV rfl rfl (by kernel_rfl) hR.s (hR.x.keep (by decide) (by decide)))
                  first | exact rfl | go_simp
                refine StepsOK.cons (StepOK.plain rfl ?_) ?_
                · intro L g W2 hR hl hd K hK
                  have e5 := hR.x.v 3 (by decide) hl
                  clear hl
                  go_simp
                  refine hK _ _ _ ?_ (hR.stepV rfl rfl (by kernel_rfl) hR.s (hR.x.keep (by decide) (by decide)))
                  first | exact rfl | go_simp
                refine StepsOK.cons (StepOK.plain rfl ?_) ?_
                · intro L g W2 hR hl hd K hK
                  have e3 := hR.val 3 rfl (dep hd 3 (by kernel_rfl))
                  clear hl
                  go_simp
                  refine hK _ _ _ ?_ (hR.stepV rfl rfl (by kernel_rfl) hR.s (hR.x.keep (by decide) (by decide)))
                  first | exact rfl | go_simp
                refine StepsOK.cons (StepOK.plain rfl ?_) ?_
                · intro L g W2 hR hl hd K hK
                  have e4 := hR.val 4 rfl (dep hd 4 (by kernel_rfl))
                  have hc := HQ6.out W2 hR.s 1 _ rfl
                  clear hl
                  go_simp
                  refine hK _ _ _ ?_ (hR.stepV rfl rfl (by kernel_rfl) hR.s (hR.x.keep (by decide) (by decide)))
                  first | exact rfl | go_simp
                refine StepsOK.cons (StepOK.plain rfl ?_) ?_
                · intro L g W2 hR hl hd K hK
                  have e5 := hR.x.v 6 (by decide) hl
                  clear hl
                  go_simp
                  refine hK _ _ _ ?_ (hR.stepV rfl rfl (by kernel_rfl) hR.s (hR.x.keep (by decide) (by decide)))
                  first | exact rfl | go_simp
                refine StepsOK.cons (StepOK.plain rfl ?_) ?_
                · intro L g W2 hR hl hd K hK
                  have e6 := hR.val 6 rfl (dep hd 6 (by kernel_rfl))
                  clear hl
                  go_simp
                  refine hK _ _ _ ?_ (hR.stepV rfl rfl (by kernel_rfl) hR.s (hR.x.keep (by decide) (by decide)))
                  first | exact rfl | go_simp
                refine StepsOK.cons (StepOK.plain rfl ?_) ?_
                · intro L g W2 hR hl hd K hK
                  have e7 := hR.val 7 rfl (dep hd 7 (by kernel_rfl))
                  have hc := HQ6.out W2 hR.s 2 _ rfl
                  clear hl
                  go_simp
                  refine hK _ _ _ ?_ (hR.stepV rfl rfl (by kernel_rfl) hR.s (hR.x.keep (by decide) (by decide)))
                  first | exact rfl | go_simp
                refine StepsOK.cons (StepOK.plain rfl ?_) ?_
                · intro L g W2 hR hl hd K hK
                  have e5 := hR.x.v 9 (by decide) hl
                  clear hl
                  go_simp
                  refine hK _ _ _ ?_ (hR.stepV rfl rfl (by kernel_rfl) hR.s (hR.x.keep (by decide) (by decide)))
                  first | exact rfl | go_simp
                refine StepsOK.cons (StepOK.plain rfl ?_) ?_
                · intro L g W2 hR hl hd K hK
                  have e9 := hR.val 9 rfl (dep hd 9 (by kernel_rfl))
                  clear hl
                  go_simp
                  refine hK _ _ _ ?_ (hR.stepV rfl rfl (by kernel_rfl) hR.s (hR.x.keep (by decide) (by decide)))
                  first | exact rfl | go_simp
                refine StepsOK.cons (StepOK.plain rfl ?_) ?_
                · intro L g W2 hR hl hd K hK
                  have e10 := hR.val 10 rfl (dep hd 10 (by kernel_rfl))
                  have hc := HQ6.out W2 hR.s 4 _ rfl
                  clear hl
                  go_simp
                  refine hK _ _ _ ?_ (hR.stepV rfl rfl (by kernel_rfl) hR.s (hR.x.keep (by decide) (by decide)))
                  first | exact rfl | go_simp
                refine StepsOK.cons (StepOK.plain rfl ?_) ?_
                · intro L g W2 hR hl hd K hK
                  have e5 := hR.x.v 12 (by decide) hl
                  clear hl
                  go_simp
                  refine hK _ _ _ ?_ (hR.stepV rfl rfl (by kernel_rfl) hR.s (hR.x.keep (by decide) (by decide)))
                  first | exact rfl | go_simp
                refine StepsOK.cons (StepOK.plain rfl ?_) ?_
                · intro L g W2 hR hl hd K hK
                  have e12 := hR.val 12 rfl (dep hd 12 (by kernel_rfl))
                  clear hl
                  go_simp
                  refine hK _ _ _ ?_ (hR.stepV rfl rfl (by kernel_rfl) hR.s (hR.x.keep (by decide) (by decide)))
                  first | exact rfl | go_simp
                refine StepsOK.cons (StepOK.plain rfl ?_) ?_
                · intro L g W2 hR hl hd K hK
                  have e13 := hR.val 13 rfl (dep hd 13 (by kernel_rfl))
                  have hc := HQ6.out W2 hR.s 5 _ rfl
                  clear hl
                  go_simp
                  refine hK _ _ _ ?_ (hR.stepV rfl rfl (by kernel_rfl) hR.s (hR.x.keep (by decide) (by decide)))
                  first | exact rfl | go_simp
                refine StepsOK.cons (StepOK.plain rfl ?_) ?_
                · intro L g W2 hR hl hd K hK
                  have e2 := hR.val 2 rfl (dep hd 2 (by kernel_rfl))
                  have e5 := hR.val 5 rfl (dep hd 5 (by kernel_rfl))
                  have e8 := hR.val 8 rfl (dep hd 8 (by kernel_rfl))
                  have e11 := hR.val 11 rfl (dep hd 11 (by kernel_rfl))
                  have e14 := hR.val 14 rfl (dep hd 14 (by kernel_rfl))
                  have hx := hR.x.got hR.s.size hl
                  clear hl
                  go_simp
                  refine hK _ _ _ ?_ (hR.stepN rfl (by kernel_rfl) (HS.out W2 _ hR.s ((Below.refl _ _).alloc (Nat.le_refl _) _)) hx)
                  first | exact rfl | go_simp
                refine StepsOK.cons (StepOK.plain rfl ?_) ?_
                · intro L g W2 hR hl hd K hK
                  obtain ⟨b, -, e112, -⟩ := hR.x.r (dep hd 15 (by kernel_rfl))
                  have hx := hR.x.set (dep hd 15 (by kernel_rfl)) (by intro j hj; simp only [List.mem_cons, List.not_mem_nil, or_false] at hj; rcases hj with rfl | rfl | rfl | rfl | rfl <;> exact dep hd _ (by kernel_rfl)) e112
                  clear hl
                  go_simp
                  refine hK _ _ _ ?_ (hR.stepN rfl (by kernel_rfl) hR.s hx)
                  first | exact rfl | go_simp
                exact StepsOK.nil
              case hf26 =>
                intro L'' g'' W7 hL hR
                have hb7 := hR.s
                obtain ⟨b7, hb7', -, hbk7, h5⟩ := hR.x.r (hL 15 (by decide))
                have h5' := h5 (hL 16 (by decide))
                have HX9 := Lib.hid (HX7.out.below hb7 HX7.out.lt)
                have HX10 := Lib.hid (HX8.out.below hb7 HX8.out.lt)
                have HB10 := Lib.hid (HB8.out.trans (hb7.mono HB8.out.size))
                have HBK := Lib.hid hbk7
                have HB7 := Lib.hid (And.intro hb7' hb7.size)
                clear hR hL hb7 hb7' hbk7 h5 HS HQ6
                go_wp2_with fail
                go_meet
                case rel =>
                  have hb := (Below.refl W7.heap.size W7).alloc (Nat.le_refl _) (.cells #[.pointer (some ⟨W3.heap.size, 1, none⟩), .pointer (some ⟨W3.heap.size, 2, none⟩), .pointer (some ⟨W3.heap.size, 8, none⟩), .pointer (some ⟨W3.heap.size, 7, none⟩)] 86)
                  have hg7 := HX9.out.lt
                  have hg6 := HG6.out
                  have h67 := HB7.out
                  refine ⟨[1, 2, 8, 7], w0, [w1', w2', w4', w5'], { zeroCm with kind := k, reduce := red, how := howOf w6', o := { zeroOd with side := sd } }, b7, 0, some ⟨W7.heap.size, 0, none⟩, 5, 4, rfl, rfl, ⟨⟨by omega, fun j x hx => ?_⟩, four_at (Blk.new _ _ _) (by omega), HX9.out.alloc _, HX10.out.alloc _, HB10.out.trans (hb.mono HB10.out.size)⟩, by decide, fun l hl => HSM.out l (HMM.out l ?_), by simp, by decide, ?_⟩
                  · refine cell_of ?_ hb
                    rw [HBK.out.cell]
                    match j, hx with
                    | 0, hx => injection hx with hx; subst hx; rfl
                    | 1, hx => injection hx with hx; subst hx; rfl
                    | 2, hx => injection hx with hx; subst hx; rfl
                    | 3, hx => injection hx with hx; subst hx; rfl
                    | 4, hx => injection hx with hx; subst hx; rfl
                  · simp only [List.mem_cons, List.not_mem_nil, or_false] at hl ⊢
                    rcases hl with h | h | h | h <;> simp [h]
                  · rw [HRD.out, order_fin red HSD.out HN0.out, H3.out]; rfl
      have d3 : (k == 3) = false := by simp [e3]
      have HM := Lib.hid (show isMkt k = false by unfold isMkt; exact decide_eq_false (by omega))
      have HT3 := Lib.hid (HTW.out e3)
      clear hk1 e7 e5 e6' e3
      go_wp2_with fail
      go_meet
      case rel =>
        refine ⟨[1, 3], kw, r, { zeroCm with kind := k }, b0, o0, some ⟨W3.heap.size + 1, 0, none⟩, c, 2, rfl, rfl, ⟨⟨by omega, HW9.out⟩, two_at HXP.out (by omega), HXC.out, HX9.out, HB9.out⟩, by decide, fun l hl => HSM.out l (List.mem_cons_of_mem _ hl), HLN.out, by decide, ?_⟩
        rw [HT3.out, HM.out]; rfl
    case rest =>
      clear HXC HXP HX9 HB9 HR9 HW9 HKK HK1 HP HSM HLN
      obtain ⟨F, k0, ws, c0, b5, o5, A9, c5, c9, rfl, rfl, hat, hF, hws, hln, hf8, hread⟩ := hcut
      have HAT := Lib.hid hat
      have HF := Lib.hid hF
      have HWS := Lib.hid hws
      have HRD := Lib.hid hread
      have hw64 : wrap64 ((F.length : Int) + 1) = (F.length : Int) + 1 := wrap64_R _ (by omega)
      by_cases hlen : ws.length = F.length
      rotate_left
      · have HZ := Lib.hid (show readOf s = (zeroCm, 1) by rw [hread]; exact finL_len _ hlen)
        have HX4 := Lib.hid hat.res
        have HB4 := Lib.hid hat.below
        have dl : (((ws.length : Int) + 1) != ((F.length : Int) + 1)) = true := by simp; omega
        clear hat hF hws hread
        go_wp2_with fail
        refine (refBad_any _).mono ?_
        rintro e W5 ⟨rfl, hb5⟩
        have HX5 := Lib.hid (HX4.out.below hb5 HX4.out.lt)
        have HB5 := Lib.hid (HB4.out.trans (hb5.mono HB4.out.size))
        clear hb5
        obtain ⟨⟨z0, z1, z2, z3, z4, z5, z6, z7, z8, z9, z10⟩, y0, y1, y2, y3, y4, y5, y6, y7, y8, y9, y10⟩ := bl_c11 HX5.out
        have x5 := HX5.out.lt
        go_wp2_with fail
        refine exit_nameT ?_
        intro Z hZ
        obtain ⟨XZ, hbZ⟩ := set11w HX5.out HB5.out (Nat.le_refl _) (.int .i64 0) (.int .i64 0) (.int .i64 0) (.int .i64 0) (.int .i64 0) (.int .i64 0) (.int .i64 0) (.int .i64 0) (.int .i64 0) (.int .i64 0) (.bool false)
        rw [← hZ] at XZ hbZ
        clear hZ z0 z1 z2 z3 z4 z5 z6 z7 z8 z9 z10 y0 y1 y2 y3 y4 y5 y6 y7 y8 y9 y10
        obtain ⟨⟨z0, z1, z2, z3, z4, z5, z6, z7, z8, z9, z10⟩, -⟩ := bl_c11 XZ
        refine bodyPost_ret (v := .tuple #[.agg #[.int .i64 0, .int .i64 0, .int .i64 0, .int .i64 0, .int .i64 0, .int .i64 0, .int .i64 0, .int .i64 0, .int .i64 0, .int .i64 0, .bool false], .int .i64 1]) (by simp [results, Tryd.results20, go_sem, *]) rfl ?_
        exact ⟨zeroCm, 1, rfl, HZ.out, hbZ⟩
      have HLE := Lib.hid hlen
      rw [hlen]
      clear hat hF hws hread
      go_upto_if 125 with (fail)
      go_wp2_with fail
      go_loopw [132] (fun vi wr => ∃ (i : Nat) (c1 : Cm), vi = .int .i64 i ∧ i ≤ F.length ∧ RdAt w wr W3.heap.size b5 o5 A9 k0 ws F c1 ∧ finL (F.drop i) (ws.drop i) c1 = readOf s) (fun vi _ => F.length - (intOf vi).toNat)
      case atStart => exact ⟨0, c0, rfl, by omega, HAT.out, HRD.out.symm⟩
      case round =>
        obtain ⟨i, c1, rfl, hi, hat, hfin⟩ := hrel
        have HA2 := Lib.hid hat
        have HFIN := Lib.hid hfin
        clear hat hfin
        have hle := HLE.out
        by_cases hlt : i < F.length
        · obtain ⟨o, ho⟩ : ∃ o, F[i]? = some o := ⟨_, List.getElem?_eq_getElem hlt⟩
          obtain ⟨l, hl⟩ : ∃ l, ws[i]? = some l := ⟨_, List.getElem?_eq_getElem (by omega)⟩
          obtain ⟨b9, rfl, hb9, hp9⟩ := HA2.out.places i o ho
          have hw9 := HA2.out.words.2 (i + 1) l (by simpa using hl)
          have HDF := Lib.hid (show F.drop i = o :: F.drop (i + 1) by rw [List.drop_eq_getElem_cons hlt]; congr 1; exact (List.getElem?_eq_some_iff.1 ho).2)
          have HDW := Lib.hid (show ws.drop i = l :: ws.drop (i + 1) by rw [List.drop_eq_getElem_cons (by omega)]; congr 1; exact (List.getElem?_eq_some_iff.1 hl).2)
          have HNUM := Lib.hid (number_any l (HWS.out l (List.mem_of_getElem? hl)) wr (HE.out.next HA2.out.below).env)
          have hii : wrap64 ((i : Int) + 1) = (i : Int) + 1 := wrap64_R _ (by omega)
          have h1 : (0 : Int) ≤ (i : Int) := by omega
          have h2 : (i : Int) < (F.length : Int) := by omega
          have h3 : (0 : Int) ≤ (i : Int) + 1 := by omega
          have h4 : (i : Int) + 1 < (F.length : Int) + 1 := by omega
          have h5 : ((i : Int) + 1).toNat = i + 1 := by omega
          have HOF := Lib.hid (HF.out o (List.mem_of_getElem? ho))
          clear ho hl
          go_upto_if 148 with (go_at_call 43; refine HNUM.out.mono ?_; rintro e w5 ⟨⟨nv, rfl, hnv⟩, hb5⟩)
          have HA5 := Lib.hid (HA2.out.next hb5)
          have HG := Lib.hid (show W3.heap.size < w5.heap.size from HA5.out.blk.lt)
          cases hno : numOf l with
          | none =>
            have HZ := Lib.hid (show readOf s = (zeroCm, 1) by rw [← HFIN.out]; exact finL_none HDF.out HDW.out c1 hno)
            have HX4 := Lib.hid HA5.out.res
            have HB4 := Lib.hid HA5.out.below
            clear hno hnv hw9 hp9 h1 h2 h3 h4 h5 hii hb5
            go_wp2_with fail
            refine (refBad_any _).mono ?_
            rintro e W5 ⟨rfl, hb5⟩
            have HX5 := Lib.hid (HX4.out.below hb5 HX4.out.lt)
            have HB5 := Lib.hid (HB4.out.trans (hb5.mono HB4.out.size))
            clear hb5
            obtain ⟨⟨z0, z1, z2, z3, z4, z5, z6, z7, z8, z9, z10⟩, y0, y1, y2, y3, y4, y5, y6, y7, y8, y9, y10⟩ := bl_c11 HX5.out
            have x5 := HX5.out.lt
            go_wp2_with fail
            refine exit_nameT ?_
            intro Z hZ
            obtain ⟨XZ, hbZ⟩ := set11w HX5.out HB5.out (Nat.le_refl _) (.int .i64 0) (.int .i64 0) (.int .i64 0) (.int .i64 0) (.int .i64 0) (.int .i64 0) (.int .i64 0) (.int .i64 0) (.int .i64 0) (.int .i64 0) (.bool false)
            rw [← hZ] at XZ hbZ
            clear hZ z0 z1 z2 z3 z4 z5 z6 z7 z8 z9 z10 y0 y1 y2 y3 y4 y5 y6 y7 y8 y9 y10
            obtain ⟨⟨z0, z1, z2, z3, z4, z5, z6, z7, z8, z9, z10⟩, -⟩ := bl_c11 XZ
            refine bodyPost_ret (v := .tuple #[.agg #[.int .i64 0, .int .i64 0, .int .i64 0, .int .i64 0, .int .i64 0, .int .i64 0, .int .i64 0, .int .i64 0, .int .i64 0, .int .i64 0, .bool false], .int .i64 1]) (by simp [results, Tryd.results20, go_sem, *]) rfl ?_
            exact ⟨zeroCm, 1, rfl, HZ.out, hbZ⟩
          | some v =>
            obtain rfl := hnv v hno
            have HN := Lib.hid (finL_some HDF.out HDW.out c1 hno)
            obtain ⟨u, hu⟩ : ∃ u, w5.cell? ⟨W3.heap.size, o, none⟩ = some u := by
              have := HOF.out
              simp only [List.mem_cons, List.not_mem_nil, or_false] at this
              rcases this with rfl | rfl | rfl | rfl | rfl <;> exact ⟨_, HA5.out.blk.cell _⟩
            have hfz := HA5.out.blk.frozen o
            clear hno hnv hw9 hp9 h3 h4 h5 hb5
            go_wp2_with fail
            go_roundw
            case rel => exact ⟨i + 1, _, by rfl, by omega, HA5.out.put hg2 HOF.out nv, by rw [← HN.out]; exact HFIN.out⟩
            case measure => simp [intOf]; omega
        · have hie : i = F.length := by omega
          have HF2 := Lib.hid (show readOf s = (c1, 0) by rw [← HFIN.out]; exact finL_end hie.symm (by omega) c1)
          have HXC := Lib.hid HA2.out.blk
          have HX4 := Lib.hid HA2.out.res
          have HB4 := Lib.hid HA2.out.below
          obtain ⟨xk, xa, xm, xn, ⟨xi, xc, xs, xp, xq⟩, xh, xr⟩ := c1
          unfold cmA at HXC
          dsimp only at HXC
          obtain ⟨⟨v0, v1, v2, v3, v4, v5, v6, v7, v8, v9, v10⟩, -⟩ := bl_c11 HXC.out
          obtain ⟨⟨z0, z1, z2, z3, z4, z5, z6, z7, z8, z9, z10⟩, y0, y1, y2, y3, y4, y5, y6, y7, y8, y9, y10⟩ := bl_c11 HX4.out
          go_wp2_with fail
          refine exit_nameT ?_
          intro Z hZ
          obtain ⟨XZ, hbZ⟩ := set11w HX4.out HB4.out (Nat.le_refl _) (.int .i64 xk) (.int .i64 xa) (.int .i64 xm) (.int .i64 xn) (.int .i64 xi) (.int .i64 xc) (.int .i64 xs) (.int .i64 xp) (.int .i64 xq) (.int .i64 xh) (.bool xr)
          rw [← hZ] at XZ hbZ
          clear hZ z0 z1 z2 z3 z4 z5 z6 z7 z8 z9 z10 y0 y1 y2 y3 y4 y5 y6 y7 y8 y9 y10 v0 v1 v2 v3 v4 v5 v6 v7 v8 v9 v10
          obtain ⟨⟨z0, z1, z2, z3, z4, z5, z6, z7, z8, z9, z10⟩, -⟩ := bl_c11 XZ
          refine bodyPost_ret (v := .tuple #[.agg #[.int .i64 xk, .int .i64 xa, .int .i64 xm, .int .i64 xn, .int .i64 xi, .int .i64 xc, .int .i64 xs, .int .i64 xp, .int .i64 xq, .int .i64 xh, .bool xr], .int .i64 0]) (by simp [results, Tryd.results20, go_sem, *]) rfl ?_
          exact ⟨⟨xk, xa, xm, xn, ⟨xi, xc, xs, xp, xq⟩, xh, xr⟩, 0, rfl, HF2.out, hbZ⟩
end Go.Proofs.YtockodmbhnlheaaDoor
