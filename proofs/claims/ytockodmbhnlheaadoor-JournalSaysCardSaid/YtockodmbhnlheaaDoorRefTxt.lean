/-
  The document's CommandText, walked.
-/
import Derived.Test.YtockodmbhnlheaaDoorRefEnv
import Derived.Test.YtockodmbhnlheaaDoorRegInv
import Derived.Test.YtockodmbhnlheaaDoorMapT
import Derived.Deep.RegionWith
import Derived.Deep.RegionHeld3
namespace Go.Proofs.YtockodmbhnlheaaDoor
open Go.RowKit

theorem wp_nameR {P : Program} {c : Code} {Q : Exit → Act → World → Prop} {a : Act} {W : World} (h : ∀ Z, Z = W → Code.wp P c Q a Z) : Code.wp P c Q a W := h W rfl
theorem below_nextR {w0 W W' : World} (hb : Below W.heap.size W W') (h : Below w0.heap.size w0 W) : Below w0.heap.size w0 W' := h.trans (hb.mono h.size)
theorem below_drewR {w0 W : World} (h : Below w0.heap.size w0 W) : Below w0.heap.size w0 W.drew := h.drew
theorem kindW_len (k : Int) : (kindW k).length ≤ 20 := by unfold kindW; (repeat' split) <;> decide
theorem howW_len (k : Int) : (howW k).length ≤ 20 := by unfold howW; (repeat' split) <;> decide
theorem itoa_len (n : Int) (h : I64 n) : (Lib.itoa n).length ≤ 40 := Nat.le_trans (Lib.itoa_length_le n h.1 h.2) (by decide)
theorem bs_app (a b : List UInt8) : bs a ++ bs b = bs (a ++ b) := by
  apply ByteArray.ext
  simp [bs]
theorem bs_two (x a b : List UInt8) : bs x ++ ((⟨#[32]⟩ : ByteArray) ++ bs a ++ (⟨#[32]⟩ : ByteArray) ++ bs b) = bs (x ++ ([32] ++ a ++ [32] ++ b)) := by
  rw [show (⟨#[32]⟩ : ByteArray) = bs [32] from rfl, bs_app, bs_app, bs_app, bs_app]
theorem cash_text {kd acc market n how : Int} {o : Od} {reduce : Bool} (h : kd = 1 ∨ kd = 2 ∨ kd = 4) : cmdText { kind := kd, acc := acc, market := market, n := n, o := o, how := how, reduce := reduce } = kindW kd ++ ([32] ++ Lib.itoa acc ++ [32] ++ Lib.itoa n) := by
  unfold cmdText
  rw [if_neg (by show ¬ kd = 3; omega), if_neg (by show ¬ isMkt kd = true; unfold isMkt; rw [decide_eq_true_eq]; omega), if_neg (by show ¬ kd = 7; omega)]
theorem mkt_text {kd acc market n how : Int} {o : Od} {reduce : Bool} (h : kd = 5 ∨ kd = 6) : cmdText { kind := kd, acc := acc, market := market, n := n, o := o, how := how, reduce := reduce } = kindW kd ++ ([32] ++ Lib.itoa market ++ [32] ++ Lib.itoa n) := by
  unfold cmdText
  rw [if_neg (by show ¬ kd = 3; omega), if_pos (by show isMkt kd = true; unfold isMkt; rw [decide_eq_true_eq]; omega)]
theorem vcell (W : World) (L : List (List UInt8)) (k : Nat) (x : List UInt8) (h : L[k]? = some x) : (W.alloc (.cells (strs L).toArray 9)).cell? ⟨W.heap.size, k, none⟩ = some (.string (bs x)) := by
  have := strs_at h
  rw [(Blk.new W 9 (strs L).toArray).cell k]
  simpa using this
theorem cell_of {w w' : World} {p : Addr} {v : Value} (h : w.cell? p = some v) (hb : Below w.heap.size w w') : w'.cell? p = some v := (hb.cell (World.block_lt_of_cell? w p h)).trans h
/-- the region of the verbs: what holds beside. -/
def Xv (k : Nat) (x : List UInt8) (L : Nat → Bool) (g : Nat → Value) (w : World) : Prop :=
  (L 0 = true → ∃ b, g 5 = .slice (some ⟨b, 0, none⟩) 8 8 ∧ w.cell? ⟨b, k, none⟩ = some (.string (bs x))) ∧ (L 3 = true → ∃ b, g 8 = .pointer (some ⟨b, k, none⟩) ∧ w.cell? ⟨b, k, none⟩ = some (.string (bs x)))
theorem Xv.keep {k : Nat} {x : List UInt8} {L : Nat → Bool} {g : Nat → Value} {w w' : World} (h : Xv k x L g w) (hb : Below w.heap.size w w') {i : Nat} {d : Option Tmp} {v : Value} (h0 : i ≠ 0) (h3 : i ≠ 3) (h5 : d ≠ some 5) (h8 : d ≠ some 8) : Xv k x (updL L i) (upd g d v) w' := by
  refine ⟨fun hl => ?_, fun hl => ?_⟩
  · rw [updL_ne (Ne.symm h0)] at hl
    rw [upd_ne h5]
    obtain ⟨b, e1, e2⟩ := h.1 hl
    exact ⟨b, e1, cell_of e2 hb⟩
  · rw [updL_ne (Ne.symm h3)] at hl
    rw [upd_ne h8]
    obtain ⟨b, e1, e2⟩ := h.2 hl
    exact ⟨b, e1, cell_of e2 hb⟩
/-! ### the region of an order's words -/
def buyL : List UInt8 := [32, 98, 117, 121, 32]
def sellL : List UInt8 := [32, 115, 101, 108, 108, 32]
theorem two_ne {x y : List UInt8} {w : World} {b : Nat} {p q : Bool} (h : TwoW x y w b p q) {c o : Nat} {v : Value} (hc : w.cell? ⟨c, o, none⟩ = some v) : some c ≠ some b := by
  intro e
  injection e with e
  subst e
  obtain ⟨D, ⟨es, clock, h1, _⟩, _⟩ := h
  unfold World.cell? at hc
  rw [show w.heap[({ block := c, off := o, spot := none } : Addr).block]? = some (.map es clock) from h1] at hc
  cases hc
theorem cell_grown {w w' : World} {b c o : Nat} {v : Value} (hg : w.grownBy w' (some b)) (hne : some c ≠ some b) (hc : w.cell? ⟨c, o, none⟩ = some v) : w'.cell? ⟨c, o, none⟩ = some v :=
  (World.cell?_of_block (hg.block c (World.block_lt_of_cell? w _ hc) hne)).trans hc
structure X6 (B how : Nat) (hw x : List UInt8) (L : Nat → Bool) (g : Nat → Value) (w : World) : Prop where
  m : L 12 = true → ∃ b, g 39 = .map (some b) ∧ B ≤ b ∧ TwoW buyL sellL w b (L 13) (L 14) ∧ (L 15 = true → g 40 = .map (some b))
  c : (L 15 = true → L 13 = true ∧ L 14 = true) ∧ (L 13 = true → L 12 = true) ∧ (L 14 = true → L 12 = true)
  f : L 35 = true → ∃ b, g 60 = .slice (some ⟨b, 0, none⟩) 5 5 ∧ w.cell? ⟨b, how, none⟩ = some (.string (bs hw))
  p : L 38 = true → ∃ b, g 63 = .pointer (some ⟨b, how, none⟩) ∧ w.cell? ⟨b, how, none⟩ = some (.string (bs hw))
  v : Was 0 4 (.string (bs x)) L g
section
variable {B how : Nat} {hw x : List UInt8} {L : Nat → Bool} {g : Nat → Value} {w w' : World}
theorem X6.keep' (h : X6 B how hw x L g w) (hb : Below w.heap.size w w') {i : Nat} {d : Option Tmp} {u : Value} (hi : i ∉ [12, 13, 14, 15, 35, 38]) (hd : d ∉ [some 39, some 40, some 60, some 63]) (hv : Was 0 4 (.string (bs x)) (updL L i) (upd g d u)) : X6 B how hw x (updL L i) (upd g d u) w' := by
  simp only [List.mem_cons, List.not_mem_nil, or_false, not_or] at hi hd
  obtain ⟨i1, i2, i3, i4, i5, i6⟩ := hi
  obtain ⟨d1, d2, d3, d4⟩ := hd
  refine ⟨?_, ?_, ?_, ?_, hv⟩
  · rw [updL_ne (Ne.symm i1), updL_ne (Ne.symm i2), updL_ne (Ne.symm i3), updL_ne (Ne.symm i4), upd_ne d1, upd_ne d2]
    intro hl
    obtain ⟨b, e1, e2, e3, e4⟩ := h.m hl
    exact ⟨b, e1, e2, e3.below hb e3.lt, e4⟩
  · rw [updL_ne (Ne.symm i1), updL_ne (Ne.symm i2), updL_ne (Ne.symm i3), updL_ne (Ne.symm i4)]; exact h.c
  · rw [updL_ne (Ne.symm i5), upd_ne d3]
    intro hl
    obtain ⟨b, e1, e2⟩ := h.f hl
    exact ⟨b, e1, cell_of e2 hb⟩
  · rw [updL_ne (Ne.symm i6), upd_ne d4]
    intro hl
    obtain ⟨b, e1, e2⟩ := h.p hl
    exact ⟨b, e1, cell_of e2 hb⟩
theorem X6.keep (h : X6 B how hw x L g w) (hb : Below w.heap.size w w') {i : Nat} {d : Option Tmp} {u : Value} (hi : i ∉ [12, 13, 14, 15, 35, 38]) (hd : d ∉ [some 39, some 40, some 60, some 63, some 4]) : X6 B how hw x (updL L i) (upd g d u) w' :=
  h.keep' hb hi (fun hm => hd (by simp only [List.mem_cons, List.not_mem_nil, or_false] at hm ⊢; rcases hm with h | h | h | h <;> simp [h])) (h.v.keep (fun e => hd (by simp [e])))
theorem X6.made (h : X6 B how hw x L g w) (hl : L 12 = false) (hB : B ≤ w.heap.size) : X6 B how hw x (updL L 12) (upd g (some 39) (.map (some w.heap.size))) (w.alloc (.map #[] 0)) := by
  have hb : Below w.heap.size w (w.alloc (.map #[] 0)) := (Below.refl _ _).alloc (Nat.le_refl _) _
  have h13 : L 13 = false := by cases e : L 13 <;> first | rfl | (rw [h.c.2.1 e] at hl; cases hl)
  have h14 : L 14 = false := by cases e : L 14 <;> first | rfl | (rw [h.c.2.2 e] at hl; cases hl)
  refine ⟨fun _ => ⟨_, upd_self, hB, ?_, fun h15 => ?_⟩, ?_, fun hl => ?_, fun hl => ?_, h.v.keep (by decide)⟩
  · rw [updL_ne (by decide), updL_ne (by decide), h13, h14]; exact TwoW.made _ _ _
  · rw [updL_ne (by decide)] at h15; rw [(h.c.1 h15).1] at h13; cases h13
  · rw [updL_ne (by decide), updL_ne (by decide), updL_ne (by decide), h13, h14]
    exact ⟨fun e => (by rw [(h.c.1 e).1] at h13; cases h13), nofun, nofun⟩
  · rw [updL_ne (by decide)] at hl; rw [upd_ne (by decide)]; obtain ⟨b, e1, e2⟩ := h.f hl; exact ⟨b, e1, cell_of e2 hb⟩
  · rw [updL_ne (by decide)] at hl; rw [upd_ne (by decide)]; obtain ⟨b, e1, e2⟩ := h.p hl; exact ⟨b, e1, cell_of e2 hb⟩
theorem updL_self {L : Nat → Bool} {i : Nat} : updL L i i = true := by unfold updL; rw [if_pos rfl]
theorem upd_none {g : Nat → Value} {v : Value} : upd g none v = g := by funext t; unfold upd; rw [if_neg (by simp)]
theorem X6.put (h : X6 B how hw x L g w) {i : Nat} (hi : i = 13 ∨ i = 14) {b : Nat} (e1 : g 39 = .map (some b)) (hB : B ≤ b) {p q : Bool} (h0 : TwoW buyL sellL w b p q) (hT : TwoW buyL sellL w' b (updL L i 13) (updL L i 14)) (hg : w.grownBy w' (some b)) (hl : L i = false) (hL : L 12 = true) (v : Value) : X6 B how hw x (updL L i) (upd g none v) w' := by
  rw [upd_none]
  have h12 : updL L i 12 = true := by rw [updL_ne (by omega)]; exact hL
  have h15 : updL L i 15 = true → False := fun e => by
    rw [updL_ne (by omega)] at e
    obtain ⟨a, b⟩ := h.c.1 e
    rcases hi with rfl | rfl
    · rw [a] at hl; cases hl
    · rw [b] at hl; cases hl
  refine ⟨fun _ => ⟨b, e1, hB, hT, fun e => (h15 e).elim⟩, ⟨fun e => (h15 e).elim, fun _ => h12, fun _ => h12⟩, fun hl => ?_, fun hl => ?_, ?_⟩
  · rw [updL_ne (by omega)] at hl; obtain ⟨c, e1, e2⟩ := h.f hl; exact ⟨c, e1, cell_grown hg (two_ne h0 e2) e2⟩
  · rw [updL_ne (by omega)] at hl; obtain ⟨c, e1, e2⟩ := h.p hl; exact ⟨c, e1, cell_grown hg (two_ne h0 e2) e2⟩
  · intro hl; rw [updL_ne (by omega)] at hl; exact h.v hl
theorem X6.put1 (h : X6 B how hw x L g w) (hl : L 13 = false) (hL : L 12 = true) : ∃ b w', g 39 = .map (some b) ∧ (Instr.mapUpdate 78 (.map (some b)) (.int .i64 1) (.string ⟨#[32, 98, 117, 121, 32]⟩)).run Tryd.prog w = .ok () w' ∧ B ≤ b ∧ w.grownBy w' (some b) ∧ ∀ v, X6 B how hw x (updL L 13) (upd g none v) w' := by
  obtain ⟨b, e1, e2, e3, e4⟩ := h.m hL
  have e3' := e3
  rw [hl] at e3'
  obtain ⟨w', r1, r2, r3⟩ := TwoW.put1 (by decide) e3'
  exact ⟨b, w', e1, r1, e2, r3, fun v => h.put (.inl rfl) e1 e2 e3 (by rw [updL_self, updL_ne (by decide)]; exact r2) r3 hl hL v⟩
theorem X6.put2 (h : X6 B how hw x L g w) (hl : L 14 = false) (hL : L 12 = true) : ∃ b w', g 39 = .map (some b) ∧ (Instr.mapUpdate 78 (.map (some b)) (.int .i64 (-1)) (.string ⟨#[32, 115, 101, 108, 108, 32]⟩)).run Tryd.prog w = .ok () w' ∧ B ≤ b ∧ w.grownBy w' (some b) ∧ ∀ v, X6 B how hw x (updL L 14) (upd g none v) w' := by
  obtain ⟨b, e1, e2, e3, e4⟩ := h.m hL
  have e3' := e3
  rw [hl] at e3'
  obtain ⟨w', r1, r2, r3⟩ := TwoW.put2 (by decide) e3'
  exact ⟨b, w', e1, r1, e2, r3, fun v => h.put (.inr rfl) e1 e2 e3 (by rw [updL_self, updL_ne (by decide)]; exact r2) r3 hl hL v⟩
theorem X6.moved (h : X6 B how hw x L g w) (h12 : L 12 = true) (h13 : L 13 = true) (h14 : L 14 = true) {b : Nat} (e : g 39 = .map (some b)) : X6 B how hw x (updL L 15) (upd g (some 40) (.map (some b))) w := by
  obtain ⟨b', e1, e2, e3, _⟩ := h.m h12
  have hbb : b' = b := by rw [e1] at e; injection e with e; injection e
  subst hbb
  refine ⟨fun _ => ⟨b', by rw [upd_ne (by decide)]; exact e1, e2, by rw [updL_ne (by decide), updL_ne (by decide)]; exact e3, fun _ => upd_self⟩, ?_, fun hl => ?_, fun hl => ?_, h.v.keep (by decide)⟩
  · rw [updL_ne (j := 13) (by decide), updL_ne (j := 14) (by decide), updL_ne (j := 12) (by decide)]; exact ⟨fun _ => ⟨h13, h14⟩, h.c.2⟩
  · rw [updL_ne (by decide)] at hl; rw [upd_ne (by decide)]; exact h.f hl
  · rw [updL_ne (by decide)] at hl; rw [upd_ne (by decide)]; exact h.p hl
theorem X6.look (h : X6 B how hw x L g w) (h15 : L 15 = true) (n : Int) (hn : n = 1 ∨ n = -1) : ∃ b, g 40 = .map (some b) ∧ (Instr.lookup 78 (.map (some b)) (.int .i64 n) false).run Tryd.prog w = .ok (.string (bs (if n = 1 then buyL else sellL))) w := by
  have h13 := (h.c.1 h15).1
  have h14 := (h.c.1 h15).2
  obtain ⟨b, e1, e2, e3, e4⟩ := h.m (h.c.2.1 h13)
  rw [h13, h14] at e3
  exact ⟨b, e4 h15, e3.look n hn⟩
theorem X6.got (h : X6 B how hw x L g w) (hb : Below w.heap.size w w') {b : Nat} (hc : w'.cell? ⟨b, how, none⟩ = some (.string (bs hw))) : X6 B how hw x (updL L 35) (upd g (some 60) (.slice (some ⟨b, 0, none⟩) 5 5)) w' := by
  refine ⟨?_, ?_, fun _ => ⟨b, upd_self, hc⟩, fun hl => ?_, h.v.keep (by decide)⟩
  · rw [updL_ne (by decide), updL_ne (by decide), updL_ne (by decide), updL_ne (by decide), upd_ne (by decide), upd_ne (by decide)]
    intro hl
    obtain ⟨b, e1, e2, e3, e4⟩ := h.m hl
    exact ⟨b, e1, e2, e3.below hb e3.lt, e4⟩
  · rw [updL_ne (by decide), updL_ne (by decide), updL_ne (by decide), updL_ne (by decide)]; exact h.c
  · rw [updL_ne (by decide)] at hl; rw [upd_ne (by decide)]; obtain ⟨b, e1, e2⟩ := h.p hl; exact ⟨b, e1, cell_of e2 hb⟩
theorem X6.point (h : X6 B how hw x L g w) {b : Nat} (hc : w.cell? ⟨b, how, none⟩ = some (.string (bs hw))) : X6 B how hw x (updL L 38) (upd g (some 63) (.pointer (some ⟨b, how, none⟩))) w := by
  refine ⟨?_, ?_, fun hl => ?_, fun _ => ⟨b, upd_self, hc⟩, h.v.keep (by decide)⟩
  · rw [updL_ne (by decide), updL_ne (by decide), updL_ne (by decide), updL_ne (by decide), upd_ne (by decide), upd_ne (by decide)]; exact h.m
  · rw [updL_ne (by decide), updL_ne (by decide), updL_ne (by decide), updL_ne (by decide)]; exact h.c
  · rw [updL_ne (by decide)] at hl; rw [upd_ne (by decide)]; exact h.f hl
end
theorem side_text {s : Int} (h : s = 1 ∨ s = -1) : (if s = 1 then buyL else sellL) = [32] ++ sideW s ++ [32] := by rcases h with rfl | rfl <;> rfl
theorem bs_place (x a m s q p h : List UInt8) : bs x ++ ((⟨#[32]⟩ : ByteArray) ++ bs a ++ (⟨#[32]⟩ : ByteArray) ++ bs m ++ bs s ++ bs q ++ (⟨#[32]⟩ : ByteArray) ++ bs p ++ (⟨#[32]⟩ : ByteArray) ++ bs h) = bs (x ++ ([32] ++ a ++ [32] ++ m ++ s ++ q ++ [32] ++ p ++ [32] ++ h)) := by
  rw [show (⟨#[32]⟩ : ByteArray) = bs [32] from rfl]
  simp only [bs_app]
theorem place_text {acc market n how : Int} {o : Od} {reduce : Bool} : cmdText { kind := 3, acc := acc, market := market, n := n, o := o, how := how, reduce := reduce } = kindW 3 ++ ([32] ++ Lib.itoa acc ++ [32] ++ Lib.itoa market ++ ([32] ++ sideW o.side ++ [32]) ++ Lib.itoa o.qty ++ [32] ++ Lib.itoa o.price ++ [32] ++ howW how) ++ (if reduce then [32] ++ wReduce else []) := by
  unfold cmdText
  rw [if_pos rfl]
set_option maxHeartbeats 1000000 in
set_option maxRecDepth 100000 in
theorem refText_any (c : Cm) (w : World) (he : EnvF w) (hf : FitC c) (hk : 1 ≤ c.kind ∧ c.kind ≤ 7) (hp : c.kind = 3 → (1 ≤ c.how ∧ c.how ≤ 4) ∧ (c.o.side = 1 ∨ c.o.side = -1)) :
    Calls Tryd.prog 19 #[.agg #[.int .i64 c.kind, .int .i64 c.acc, .int .i64 c.market, .int .i64 c.n, .int .i64 c.o.id, .int .i64 c.o.acc, .int .i64 c.o.side, .int .i64 c.o.price, .int .i64 c.o.qty, .int .i64 c.how, .bool c.reduce]] w fun e w' => e = .returned (.string (bs (cmdText c))) ∧ Below w.heap.size w w' := by
  have HE := Lib.hid he
  clear he
  obtain ⟨kd, acc, market, n, ⟨oid, oacc, oside, oprice, oqty⟩, how, reduce⟩ := c
  generalize hcc : cmdText { kind := kd, acc := acc, market := market, n := n, o := { id := oid, acc := oacc, side := oside, price := oprice, qty := oqty }, how := how, reduce := reduce } = t
  have hf' : I64 acc ∧ I64 market ∧ I64 n ∧ I64 oprice ∧ I64 oqty := ⟨hf.acc, hf.market, hf.n, hf.price, hf.qty⟩
  clear hf
  dsimp only at hk hp ⊢
  have HP := Lib.hid hp
  clear hp
  obtain ⟨k, hkd⟩ : ∃ k : Nat, kd = (k : Int) := ⟨kd.toNat, by omega⟩
  have hi0 : (0 : Int) ≤ (k : Int) := by omega
  have hi8 : (k : Int) < 8 := by omega
  have hx : verbsL[k]? = some (kindW kd) := by
    rcases (show kd = 1 ∨ kd = 2 ∨ kd = 3 ∨ kd = 4 ∨ kd = 5 ∨ kd = 6 ∨ kd = 7 by omega) with rfl | rfl | rfl | rfl | rfl | rfl | rfl
    · rw [show k = 1 by omega]; rfl
    · rw [show k = 2 by omega]; rfl
    · rw [show k = 3 by omega]; rfl
    · rw [show k = 4 by omega]; rfl
    · rw [show k = 5 by omega]; rfl
    · rw [show k = 6 by omega]; rfl
    · rw [show k = 7 by omega]; rfl
  generalize hxk : kindW kd = x at hx
  have HX := Lib.hid hx
  have HXK := Lib.hid hxk
  have HCC := Lib.hid hcc
  have HK := Lib.hid hk
  have HKD := Lib.hid hkd
  have HF := Lib.hid hf'
  have HI0 := Lib.hid hi0
  have HI8 := Lib.hid hi8
  clear hx hcc hk hxk hkd hi0 hi8 hf'
  go_enter Tryd.func19, Tryd.ntmps19
  go_upto_region 2 with (fail)
  refine wp_nameR ?_
  intro W1 hW1
  have hb1 : Below w.heap.size w W1 := by rw [hW1]; exact (Below.refl _ _).alloc (Nat.le_refl _) _
  have X1 : Blk W1 w.heap.size 25 #[.int .i64 kd, .int .i64 acc, .int .i64 market, .int .i64 n, .int .i64 oid, .int .i64 oacc, .int .i64 oside, .int .i64 oprice, .int .i64 oqty, .int .i64 how, .bool reduce] := by rw [hW1]; exact Blk.new w _ _
  clear hW1
  have HW1 := HE.out.next hb1
  have HV := Lib.hid (fun (W : World) (h : Below W1.heap.size W1 W) => verbs_any W (HW1.next h))
  have HC0 := Lib.hid (fun (W : World) (h : Below W1.heap.size W1 W) => ((X1.below h X1.lt).cell 0))
  refine wp_region_inv [5, 6, 7, 8, 9, 4] (RI [none, some (6, .pointer (some ⟨w.heap.size, 0, none⟩)), some (7, .int .i64 kd), none, some (9, .string (bs x)), some (4, .string (bs x))] (fun W => Below W1.heap.size W1 W) (Xv k x)) (mk := ?mk) ?hmk rfl (by kernel_rfl) (by kernel_rfl) ?h0 ?hs ?hf
  case hmk =>
    intro g
    simp only [patch, List.foldl_cons, List.foldl_nil, List.setIfInBounds_toArray, List.set_cons_zero, List.set_cons_succ]
    exact rfl
  case h0 => exact ⟨below_drewR (Below.refl _ _), by simp, by constructor <;> intro h <;> cases h⟩
  case hs =>
    refine StepsOK.cons (StepOK.plain rfl ?_) ?_
    · intro L g W hR hl hd K hK
      clear hl
      go_simp
      refine (HV.out W hR.s).mono ?_
      rintro e W' ⟨rfl, hw'⟩
      have hb : Below W.heap.size W W' := by rw [hw']; exact (Below.refl _ _).alloc (Nat.le_refl _) _
      have hc : W'.cell? ⟨W.heap.size, k, none⟩ = some (.string (bs x)) := by rw [hw']; exact vcell _ _ _ _ HX.out
      clear hw'
      go_simp
      refine hK _ _ _ ?_ (hR.stepN rfl (by kernel_rfl) (below_nextR hb hR.s) ⟨fun _ => ⟨_, upd_self, hc⟩, fun hl => ?_⟩)
      · first | exact rfl | go_simp
      · rw [updL_ne (by decide)] at hl
        rw [upd_ne (by decide)]
        obtain ⟨b, e1, e2⟩ := hR.x.2 hl
        exact ⟨b, e1, cell_of e2 hb⟩
    refine StepsOK.cons (StepOK.plain rfl ?_) ?_
    · intro L g W hR hl hd K hK
      clear hl
      go_simp
      refine hK _ _ _ ?_ (hR.stepV rfl rfl (by kernel_rfl) hR.s (hR.x.keep (Below.refl _ _) (by decide) (by decide) (by decide) (by decide)))
      first | exact rfl | go_simp
    refine StepsOK.cons (StepOK.plain rfl ?_) ?_
    · intro L g W hR hl hd K hK
      have e1 := hR.val 1 rfl (dep hd 1 (by kernel_rfl))
      have hc := HC0.out W hR.s
      simp at hc
      clear hl
      go_simp
      refine hK _ _ _ ?_ (hR.stepV rfl rfl (by kernel_rfl) hR.s (hR.x.keep (Below.refl _ _) (by decide) (by decide) (by decide) (by decide)))
      first | exact rfl | go_simp
    refine StepsOK.cons (StepOK.plain rfl ?_) ?_
    · intro L g W hR hl hd K hK
      have e2 := hR.val 2 rfl (dep hd 2 (by kernel_rfl))
      obtain ⟨b, e0, hc⟩ := hR.x.1 (dep hd 0 (by kernel_rfl))
      have hkd := HKD.out
      have hi0 := HI0.out
      have hi8 := HI8.out
      clear hl
      go_simp
      refine hK _ _ _ ?_ (hR.stepN rfl (by kernel_rfl) hR.s ⟨fun _ => ⟨b, by rw [upd_ne (by decide)]; exact e0, hc⟩, fun _ => ⟨b, upd_self, hc⟩⟩)
      first | exact rfl | go_simp
    refine StepsOK.cons (StepOK.plain rfl ?_) ?_
    · intro L g W hR hl hd K hK
      obtain ⟨b, e3, hc⟩ := hR.x.2 (dep hd 3 (by kernel_rfl))
      clear hl
      go_simp
      refine hK _ _ _ ?_ (hR.stepV rfl rfl (by kernel_rfl) hR.s (hR.x.keep (Below.refl _ _) (by decide) (by decide) (by decide) (by decide)))
      first | exact rfl | go_simp
    refine StepsOK.cons (StepOK.plain rfl ?_) ?_
    · intro L g W hR hl hd K hK
      have e4 := hR.val 4 rfl (dep hd 4 (by kernel_rfl))
      clear hl
      go_simp
      refine hK _ _ _ ?_ (hR.stepV rfl rfl (by kernel_rfl) hR.s (hR.x.keep (Below.refl _ _) (by decide) (by decide) (by decide) (by decide)))
      first | exact rfl | go_simp
    exact StepsOK.nil
  case hf =>
    intro L g W hL hR
    have hb := hR.s
    have e4 := hR.val 5 rfl (hL 5 (by decide))
    clear hR hL HV HC0 HI0 HI8
    have hbw : Below w.heap.size w W := hb1.trans (hb.mono hb1.size)
    have X2 := X1.below hb X1.lt
    have HW2 := HW1.next hb
    clear X1 hb HW1 hb1
    have HCL := Lib.hid (fun (W' : World) (h : Below W.heap.size W W') => (X2.below h X2.lt).cell)
    have cl0 := X2.cell 0
    simp at cl0
    have HBW := Lib.hid hbw
    have hkk := HK.out
    rcases (show (kd = 1 ∨ kd = 2 ∨ kd = 4) ∨ (kd = 5 ∨ kd = 6) ∨ kd = 3 ∨ kd = 7 by omega) with hA | hB | hC | hD
    · have n3 : ¬ kd = 3 := by omega
      have n5 : ¬ kd = 5 := by omega
      have n6 : ¬ kd = 6 := by omega
      have n7 : ¬ kd = 7 := by omega
      have HA := Lib.hid hA
      clear hA hkk
      go_upto_region 4 with (fail)
      obtain ⟨s16, h16⟩ : ∃ s, bs (Lib.itoa acc) = s := ⟨_, rfl⟩
      have H16 : Hid (∀ W', Below W.heap.size W W' → Calls Tryd.prog 29 #[.int .i64 acc] W' fun e W'' => e = .returned (.string s16) ∧ Below W'.heap.size W' W'') := Lib.hid (fun W' h => by rw [← h16]; exact itoa_any acc HF.out.1 W' (HW2.next h).env)
      have G16 := Lib.hid h16
      clear h16
      obtain ⟨s22, h22⟩ : ∃ s, bs (Lib.itoa n) = s := ⟨_, rfl⟩
      have H22 : Hid (∀ W', Below W.heap.size W W' → Calls Tryd.prog 29 #[.int .i64 n] W' fun e W'' => e = .returned (.string s22) ∧ Below W'.heap.size W' W'') := Lib.hid (fun W' h => by rw [← h22]; exact itoa_any n HF.out.2.2.1 W' (HW2.next h).env)
      have G22 := Lib.hid h22
      clear h22
      have yx : (bs x).size ≤ 20 := by rw [bs_size, ← HXK.out]; exact kindW_len kd
      have y16 : s16.size ≤ 40 := by rw [← G16.out, bs_size]; exact itoa_len acc HF.out.1
      have y22 : s22.size ≤ 40 := by rw [← G22.out, bs_size]; exact itoa_len n HF.out.2.2.1
      obtain ⟨s17, h17⟩ : ∃ s, (⟨#[32]⟩ : ByteArray) ++ s16 = s := ⟨_, rfl⟩
      have y17 : s17.size = 1 + s16.size := by rw [← h17, ByteArray.size_append] <;> rfl
      have Z17 := Lib.hid (show ¬ 9223372036854775807 < 1 + s16.size by omega)
      obtain ⟨s18, h18⟩ : ∃ s, s17 ++ (⟨#[32]⟩ : ByteArray) = s := ⟨_, rfl⟩
      have y18 : s18.size = s17.size + 1 := by rw [← h18, ByteArray.size_append] <;> rfl
      have Z18 := Lib.hid (show ¬ 9223372036854775807 < s17.size + 1 by omega)
      obtain ⟨s23, h23⟩ : ∃ s, s18 ++ s22 = s := ⟨_, rfl⟩
      have y23 : s23.size = s18.size + s22.size := by rw [← h23, ByteArray.size_append] <;> rfl
      have Z23 := Lib.hid (show ¬ 9223372036854775807 < s18.size + s22.size by omega)
      obtain ⟨s24, h24⟩ : ∃ s, bs x ++ s23 = s := ⟨_, rfl⟩
      have y24 : s24.size = (bs x).size + s23.size := by rw [← h24, ByteArray.size_append] <;> rfl
      have Z24 := Lib.hid (show ¬ 9223372036854775807 < (bs x).size + s23.size by omega)
      clear yx y16 y22 y17 y18 y23 y24
      have HS : Hid (∀ W' W'', Below W.heap.size W W' → Below W'.heap.size W' W'' → Below W.heap.size W W'') := Lib.hid (fun W' W'' h1 h2 => below_nextR h2 h1)
      refine wp_region_inv [12, 13, 14, 15, 16, 17, 18, 19, 20, 21, 22, 23, 24, 4] (RI [some (12, .string (bs x)), some (13, .func (.func 29) #[] #[]), some (14, .pointer (some ⟨w.heap.size, 1, none⟩)), some (15, .int .i64 acc), some (16, .string s16), some (17, .string s17), some (18, .string s18), some (19, .func (.func 29) #[] #[]), some (20, .pointer (some ⟨w.heap.size, 3, none⟩)), some (21, .int .i64 n), some (22, .string s22), some (23, .string s23), some (24, .string s24), some (4, .string s24)] (fun W' => Below W.heap.size W W') (fun L g' _ => Was 0 4 (.string (bs x)) L g')) (mk := ?mk4) ?hmk4 rfl (by kernel_rfl) (by kernel_rfl) ?h04 ?hs4 ?hf4
      case hmk4 =>
        intro g'
        simp only [patch, List.foldl_cons, List.foldl_nil, List.setIfInBounds_toArray, List.set_cons_zero, List.set_cons_succ]
        exact rfl
      case h04 => exact ⟨(Below.refl _ _).drew, fun i d v _ h => (nomatch h), fun _ => by simp [e4]⟩
      case hs4 =>
        refine StepsOK.cons (StepOK.plain rfl ?_) ?_
        · intro L g W hR hl hd K hK
          have e4 := hR.x hl
          clear hl
          go_simp
          refine hK _ _ _ ?_ (hR.stepV rfl rfl (by kernel_rfl) hR.s (hR.x.keep (by decide)))
          first | exact rfl | go_simp
        refine StepsOK.cons (StepOK.plain rfl ?_) ?_
        · intro L g W hR hl hd K hK
          clear hl
          go_simp
          refine hK _ _ _ ?_ (hR.stepV rfl rfl (by kernel_rfl) hR.s (hR.x.keep (by decide)))
          first | exact rfl | go_simp
        refine StepsOK.cons (StepOK.plain rfl ?_) ?_
        · intro L g W hR hl hd K hK
          clear hl
          go_simp
          refine hK _ _ _ ?_ (hR.stepV rfl rfl (by kernel_rfl) hR.s (hR.x.keep (by decide)))
          first | exact rfl | go_simp
        refine StepsOK.cons (StepOK.plain rfl ?_) ?_
        · intro L g W hR hl hd K hK
          have e2 := hR.val 2 rfl (dep hd 2 (by kernel_rfl))
          have cl := HCL.out W hR.s 1; simp at cl
          clear hl
          go_simp
          refine hK _ _ _ ?_ (hR.stepV rfl rfl (by kernel_rfl) hR.s (hR.x.keep (by decide)))
          first | exact rfl | go_simp
        refine StepsOK.cons (StepOK.plain rfl ?_) ?_
        · intro L g W hR hl hd K hK
          have e1 := hR.val 1 rfl (dep hd 1 (by kernel_rfl))
          have e3 := hR.val 3 rfl (dep hd 3 (by kernel_rfl))
          clear hl
          go_simp
          refine (H16.out W hR.s).mono ?_
          rintro e W' ⟨rfl, hb⟩
          go_simp
          refine hK _ _ _ ?_ (hR.stepV rfl rfl (by kernel_rfl) (HS.out W W' hR.s hb) (hR.x.keep (by decide)))
          first | exact rfl | go_simp
        refine StepsOK.cons (StepOK.plain rfl ?_) ?_
        · intro L g W hR hl hd K hK
          have e4 := hR.val 4 rfl (dep hd 4 (by kernel_rfl))
          have z := Z17.out
          clear hl
          go_simp
          refine hK _ _ _ ?_ (hR.stepV rfl rfl (by kernel_rfl) hR.s (hR.x.keep (by decide)))
          first | exact rfl | go_simp
        refine StepsOK.cons (StepOK.plain rfl ?_) ?_
        · intro L g W hR hl hd K hK
          have e5 := hR.val 5 rfl (dep hd 5 (by kernel_rfl))
          have z := Z18.out
          clear hl
          go_simp
          refine hK _ _ _ ?_ (hR.stepV rfl rfl (by kernel_rfl) hR.s (hR.x.keep (by decide)))
          first | exact rfl | go_simp
        refine StepsOK.cons (StepOK.plain rfl ?_) ?_
        · intro L g W hR hl hd K hK
          clear hl
          go_simp
          refine hK _ _ _ ?_ (hR.stepV rfl rfl (by kernel_rfl) hR.s (hR.x.keep (by decide)))
          first | exact rfl | go_simp
        refine StepsOK.cons (StepOK.plain rfl ?_) ?_
        · intro L g W hR hl hd K hK
          clear hl
          go_simp
          refine hK _ _ _ ?_ (hR.stepV rfl rfl (by kernel_rfl) hR.s (hR.x.keep (by decide)))
          first | exact rfl | go_simp
        refine StepsOK.cons (StepOK.plain rfl ?_) ?_
        · intro L g W hR hl hd K hK
          have e8 := hR.val 8 rfl (dep hd 8 (by kernel_rfl))
          have cl := HCL.out W hR.s 3; simp at cl
          clear hl
          go_simp
          refine hK _ _ _ ?_ (hR.stepV rfl rfl (by kernel_rfl) hR.s (hR.x.keep (by decide)))
          first | exact rfl | go_simp
        refine StepsOK.cons (StepOK.plain rfl ?_) ?_
        · intro L g W hR hl hd K hK
          have e7 := hR.val 7 rfl (dep hd 7 (by kernel_rfl))
          have e9 := hR.val 9 rfl (dep hd 9 (by kernel_rfl))
          clear hl
          go_simp
          refine (H22.out W hR.s).mono ?_
          rintro e W' ⟨rfl, hb⟩
          go_simp
          refine hK _ _ _ ?_ (hR.stepV rfl rfl (by kernel_rfl) (HS.out W W' hR.s hb) (hR.x.keep (by decide)))
          first | exact rfl | go_simp
        refine StepsOK.cons (StepOK.plain rfl ?_) ?_
        · intro L g W hR hl hd K hK
          have e6 := hR.val 6 rfl (dep hd 6 (by kernel_rfl))
          have e10 := hR.val 10 rfl (dep hd 10 (by kernel_rfl))
          have z := Z23.out
          clear hl
          go_simp
          refine hK _ _ _ ?_ (hR.stepV rfl rfl (by kernel_rfl) hR.s (hR.x.keep (by decide)))
          first | exact rfl | go_simp
        refine StepsOK.cons (StepOK.plain rfl ?_) ?_
        · intro L g W hR hl hd K hK
          have e0 := hR.val 0 rfl (dep hd 0 (by kernel_rfl))
          have e11 := hR.val 11 rfl (dep hd 11 (by kernel_rfl))
          have z := Z24.out
          clear hl
          go_simp
          refine hK _ _ _ ?_ (hR.stepV rfl rfl (by kernel_rfl) hR.s (hR.x.keep (by decide)))
          first | exact rfl | go_simp
        refine StepsOK.cons (StepOK.plain rfl ?_) ?_
        · intro L g W hR hl hd K hK
          have e12 := hR.val 12 rfl (dep hd 12 (by kernel_rfl))
          clear hl
          go_simp
          refine hK _ _ _ ?_ (hR.stepV rfl rfl (by kernel_rfl) hR.s (Was.over (dep hd 0 (by kernel_rfl))))
          first | exact rfl | go_simp
        exact StepsOK.nil
      case hf4 =>
        intro L g' W' hL hR
        have hb3 := hR.s
        have e4' := hR.val 13 rfl (hL 13 (by decide))
        clear hR hL HW2
        clear HS
        clear H16
        clear H22
        have G17 := Lib.hid h17
        clear h17
        have G18 := Lib.hid h18
        clear h18
        have G23 := Lib.hid h23
        clear h23
        have G24 := Lib.hid h24
        clear h24
        go_wp2_with fail
        go_ret
        refine ⟨?_, hbw.trans (hb3.mono hbw.size)⟩
        have HT : s24 = bs t := by
          rw [← HCC.out, cash_text HA.out, HXK.out, ← G24.out, ← G23.out, ← G18.out, ← G17.out, ← G16.out, ← G22.out]
          exact bs_two _ _ _
        simp [e4', HT]
    · have n3 : ¬ kd = 3 := by omega
      have n7 : ¬ kd = 7 := by omega
      have HA := Lib.hid hB
      clear hkk
      have n5 : kd = 5 ∨ ¬ kd = 5 := by omega
      rcases n5 with n5 | n5
      · go_upto_region 11 with (fail)
        obtain ⟨s78, h78⟩ : ∃ s, bs (Lib.itoa market) = s := ⟨_, rfl⟩
        have H78 : Hid (∀ W', Below W.heap.size W W' → Calls Tryd.prog 29 #[.int .i64 market] W' fun e W'' => e = .returned (.string s78) ∧ Below W'.heap.size W' W'') := Lib.hid (fun W' h => by rw [← h78]; exact itoa_any market HF.out.2.1 W' (HW2.next h).env)
        have G78 := Lib.hid h78
        clear h78
        obtain ⟨s84, h84⟩ : ∃ s, bs (Lib.itoa n) = s := ⟨_, rfl⟩
        have H84 : Hid (∀ W', Below W.heap.size W W' → Calls Tryd.prog 29 #[.int .i64 n] W' fun e W'' => e = .returned (.string s84) ∧ Below W'.heap.size W' W'') := Lib.hid (fun W' h => by rw [← h84]; exact itoa_any n HF.out.2.2.1 W' (HW2.next h).env)
        have G84 := Lib.hid h84
        clear h84
        have yx : (bs x).size ≤ 20 := by rw [bs_size, ← HXK.out]; exact kindW_len kd
        have y78 : s78.size ≤ 40 := by rw [← G78.out, bs_size]; exact itoa_len market HF.out.2.1
        have y84 : s84.size ≤ 40 := by rw [← G84.out, bs_size]; exact itoa_len n HF.out.2.2.1
        obtain ⟨s79, h79⟩ : ∃ s, (⟨#[32]⟩ : ByteArray) ++ s78 = s := ⟨_, rfl⟩
        have y79 : s79.size = 1 + s78.size := by rw [← h79, ByteArray.size_append] <;> rfl
        have Z79 := Lib.hid (show ¬ 9223372036854775807 < 1 + s78.size by omega)
        obtain ⟨s80, h80⟩ : ∃ s, s79 ++ (⟨#[32]⟩ : ByteArray) = s := ⟨_, rfl⟩
        have y80 : s80.size = s79.size + 1 := by rw [← h80, ByteArray.size_append] <;> rfl
        have Z80 := Lib.hid (show ¬ 9223372036854775807 < s79.size + 1 by omega)
        obtain ⟨s85, h85⟩ : ∃ s, s80 ++ s84 = s := ⟨_, rfl⟩
        have y85 : s85.size = s80.size + s84.size := by rw [← h85, ByteArray.size_append] <;> rfl
        have Z85 := Lib.hid (show ¬ 9223372036854775807 < s80.size + s84.size by omega)
        obtain ⟨s86, h86⟩ : ∃ s, bs x ++ s85 = s := ⟨_, rfl⟩
        have y86 : s86.size = (bs x).size + s85.size := by rw [← h86, ByteArray.size_append] <;> rfl
        have Z86 := Lib.hid (show ¬ 9223372036854775807 < (bs x).size + s85.size by omega)
        clear yx y78 y84 y79 y80 y85 y86
        have HS : Hid (∀ W' W'', Below W.heap.size W W' → Below W'.heap.size W' W'' → Below W.heap.size W W'') := Lib.hid (fun W' W'' h1 h2 => below_nextR h2 h1)
        refine wp_region_inv [74, 75, 76, 77, 78, 79, 80, 81, 82, 83, 84, 85, 86, 4] (RI [some (74, .string (bs x)), some (75, .func (.func 29) #[] #[]), some (76, .pointer (some ⟨w.heap.size, 2, none⟩)), some (77, .int .i64 market), some (78, .string s78), some (79, .string s79), some (80, .string s80), some (81, .func (.func 29) #[] #[]), some (82, .pointer (some ⟨w.heap.size, 3, none⟩)), some (83, .int .i64 n), some (84, .string s84), some (85, .string s85), some (86, .string s86), some (4, .string s86)] (fun W' => Below W.heap.size W W') (fun L g' _ => Was 0 4 (.string (bs x)) L g')) (mk := ?mk11a) ?hmk11a rfl (by kernel_rfl) (by kernel_rfl) ?h011a ?hs11a ?hf11a
        case hmk11a =>
          intro g'
          simp only [patch, List.foldl_cons, List.foldl_nil, List.setIfInBounds_toArray, List.set_cons_zero, List.set_cons_succ]
          exact rfl
        case h011a => exact ⟨(Below.refl _ _).drew, fun i d v _ h => (nomatch h), fun _ => by simp [e4]⟩
        case hs11a =>
          refine StepsOK.cons (StepOK.plain rfl ?_) ?_
          · intro L g W hR hl hd K hK
            have e4 := hR.x hl
            clear hl
            go_simp
            refine hK _ _ _ ?_ (hR.stepV rfl rfl (by kernel_rfl) hR.s (hR.x.keep (by decide)))
            first | exact rfl | go_simp
          refine StepsOK.cons (StepOK.plain rfl ?_) ?_
          · intro L g W hR hl hd K hK
            clear hl
            go_simp
            refine hK _ _ _ ?_ (hR.stepV rfl rfl (by kernel_rfl) hR.s (hR.x.keep (by decide)))
            first | exact rfl | go_simp
          refine StepsOK.cons (StepOK.plain rfl ?_) ?_
          · intro L g W hR hl hd K hK
            clear hl
            go_simp
            refine hK _ _ _ ?_ (hR.stepV rfl rfl (by kernel_rfl) hR.s (hR.x.keep (by decide)))
            first | exact rfl | go_simp
          refine StepsOK.cons (StepOK.plain rfl ?_) ?_
          · intro L g W hR hl hd K hK
            have e2 := hR.val 2 rfl (dep hd 2 (by kernel_rfl))
            have cl := HCL.out W hR.s 2; simp at cl
            clear hl
            go_simp
            refine hK _ _ _ ?_ (hR.stepV rfl rfl (by kernel_rfl) hR.s (hR.x.keep (by decide)))
            first | exact rfl | go_simp
          refine StepsOK.cons (StepOK.plain rfl ?_) ?_
          · intro L g W hR hl hd K hK
            have e1 := hR.val 1 rfl (dep hd 1 (by kernel_rfl))
            have e3 := hR.val 3 rfl (dep hd 3 (by kernel_rfl))
            clear hl
            go_simp
            refine (H78.out W hR.s).mono ?_
            rintro e W' ⟨rfl, hb⟩
            go_simp
            refine hK _ _ _ ?_ (hR.stepV rfl rfl (by kernel_rfl) (HS.out W W' hR.s hb) (hR.x.keep (by decide)))
            first | exact rfl | go_simp
          refine StepsOK.cons (StepOK.plain rfl ?_) ?_
          · intro L g W hR hl hd K hK
            have e4 := hR.val 4 rfl (dep hd 4 (by kernel_rfl))
            have z := Z79.out
            clear hl
            go_simp
            refine hK _ _ _ ?_ (hR.stepV rfl rfl (by kernel_rfl) hR.s (hR.x.keep (by decide)))
            first | exact rfl | go_simp
          refine StepsOK.cons (StepOK.plain rfl ?_) ?_
          · intro L g W hR hl hd K hK
            have e5 := hR.val 5 rfl (dep hd 5 (by kernel_rfl))
            have z := Z80.out
            clear hl
            go_simp
            refine hK _ _ _ ?_ (hR.stepV rfl rfl (by kernel_rfl) hR.s (hR.x.keep (by decide)))
            first | exact rfl | go_simp
          refine StepsOK.cons (StepOK.plain rfl ?_) ?_
          · intro L g W hR hl hd K hK
            clear hl
            go_simp
            refine hK _ _ _ ?_ (hR.stepV rfl rfl (by kernel_rfl) hR.s (hR.x.keep (by decide)))
            first | exact rfl | go_simp
          refine StepsOK.cons (StepOK.plain rfl ?_) ?_
          · intro L g W hR hl hd K hK
            clear hl
            go_simp
            refine hK _ _ _ ?_ (hR.stepV rfl rfl (by kernel_rfl) hR.s (hR.x.keep (by decide)))
            first | exact rfl | go_simp
          refine StepsOK.cons (StepOK.plain rfl ?_) ?_
          · intro L g W hR hl hd K hK
            have e8 := hR.val 8 rfl (dep hd 8 (by kernel_rfl))
            have cl := HCL.out W hR.s 3; simp at cl
            clear hl
            go_simp
            refine hK _ _ _ ?_ (hR.stepV rfl rfl (by kernel_rfl) hR.s (hR.x.keep (by decide)))
            first | exact rfl | go_simp
          refine StepsOK.cons (StepOK.plain rfl ?_) ?_
          · intro L g W hR hl hd K hK
            have e7 := hR.val 7 rfl (dep hd 7 (by kernel_rfl))
            have e9 := hR.val 9 rfl (dep hd 9 (by kernel_rfl))
            clear hl
            go_simp
            refine (H84.out W hR.s).mono ?_
            rintro e W' ⟨rfl, hb⟩
            go_simp
            refine hK _ _ _ ?_ (hR.stepV rfl rfl (by kernel_rfl) (HS.out W W' hR.s hb) (hR.x.keep (by decide)))
            first | exact rfl | go_simp
          refine StepsOK.cons (StepOK.plain rfl ?_) ?_
          · intro L g W hR hl hd K hK
            have e6 := hR.val 6 rfl (dep hd 6 (by kernel_rfl))
            have e10 := hR.val 10 rfl (dep hd 10 (by kernel_rfl))
            have z := Z85.out
            clear hl
            go_simp
            refine hK _ _ _ ?_ (hR.stepV rfl rfl (by kernel_rfl) hR.s (hR.x.keep (by decide)))
            first | exact rfl | go_simp
          refine StepsOK.cons (StepOK.plain rfl ?_) ?_
          · intro L g W hR hl hd K hK
            have e0 := hR.val 0 rfl (dep hd 0 (by kernel_rfl))
            have e11 := hR.val 11 rfl (dep hd 11 (by kernel_rfl))
            have z := Z86.out
            clear hl
            go_simp
            refine hK _ _ _ ?_ (hR.stepV rfl rfl (by kernel_rfl) hR.s (hR.x.keep (by decide)))
            first | exact rfl | go_simp
          refine StepsOK.cons (StepOK.plain rfl ?_) ?_
          · intro L g W hR hl hd K hK
            have e12 := hR.val 12 rfl (dep hd 12 (by kernel_rfl))
            clear hl
            go_simp
            refine hK _ _ _ ?_ (hR.stepV rfl rfl (by kernel_rfl) hR.s (Was.over (dep hd 0 (by kernel_rfl))))
            first | exact rfl | go_simp
          exact StepsOK.nil
        case hf11a =>
          intro L g' W' hL hR
          have hb3 := hR.s
          have e4' := hR.val 13 rfl (hL 13 (by decide))
          clear hR hL HW2
          clear HS
          clear H78
          clear H84
          have G79 := Lib.hid h79
          clear h79
          have G80 := Lib.hid h80
          clear h80
          have G85 := Lib.hid h85
          clear h85
          have G86 := Lib.hid h86
          clear h86
          go_wp2_with fail
          go_ret
          refine ⟨?_, hbw.trans (hb3.mono hbw.size)⟩
          have HT : s86 = bs t := by
            rw [← HCC.out, mkt_text HA.out, HXK.out, ← G86.out, ← G85.out, ← G80.out, ← G79.out, ← G78.out, ← G84.out]
            exact bs_two _ _ _
          simp [e4', HT]
      · have n6 : kd = 6 := by omega
        clear hB
        go_upto_region 11 with (fail)
        obtain ⟨s78, h78⟩ : ∃ s, bs (Lib.itoa market) = s := ⟨_, rfl⟩
        have H78 : Hid (∀ W', Below W.heap.size W W' → Calls Tryd.prog 29 #[.int .i64 market] W' fun e W'' => e = .returned (.string s78) ∧ Below W'.heap.size W' W'') := Lib.hid (fun W' h => by rw [← h78]; exact itoa_any market HF.out.2.1 W' (HW2.next h).env)
        have G78 := Lib.hid h78
        clear h78
        obtain ⟨s84, h84⟩ : ∃ s, bs (Lib.itoa n) = s := ⟨_, rfl⟩
        have H84 : Hid (∀ W', Below W.heap.size W W' → Calls Tryd.prog 29 #[.int .i64 n] W' fun e W'' => e = .returned (.string s84) ∧ Below W'.heap.size W' W'') := Lib.hid (fun W' h => by rw [← h84]; exact itoa_any n HF.out.2.2.1 W' (HW2.next h).env)
        have G84 := Lib.hid h84
        clear h84
        have yx : (bs x).size ≤ 20 := by rw [bs_size, ← HXK.out]; exact kindW_len kd
        have y78 : s78.size ≤ 40 := by rw [← G78.out, bs_size]; exact itoa_len market HF.out.2.1
        have y84 : s84.size ≤ 40 := by rw [← G84.out, bs_size]; exact itoa_len n HF.out.2.2.1
        obtain ⟨s79, h79⟩ : ∃ s, (⟨#[32]⟩ : ByteArray) ++ s78 = s := ⟨_, rfl⟩
        have y79 : s79.size = 1 + s78.size := by rw [← h79, ByteArray.size_append] <;> rfl
        have Z79 := Lib.hid (show ¬ 9223372036854775807 < 1 + s78.size by omega)
        obtain ⟨s80, h80⟩ : ∃ s, s79 ++ (⟨#[32]⟩ : ByteArray) = s := ⟨_, rfl⟩
        have y80 : s80.size = s79.size + 1 := by rw [← h80, ByteArray.size_append] <;> rfl
        have Z80 := Lib.hid (show ¬ 9223372036854775807 < s79.size + 1 by omega)
        obtain ⟨s85, h85⟩ : ∃ s, s80 ++ s84 = s := ⟨_, rfl⟩
        have y85 : s85.size = s80.size + s84.size := by rw [← h85, ByteArray.size_append] <;> rfl
        have Z85 := Lib.hid (show ¬ 9223372036854775807 < s80.size + s84.size by omega)
        obtain ⟨s86, h86⟩ : ∃ s, bs x ++ s85 = s := ⟨_, rfl⟩
        have y86 : s86.size = (bs x).size + s85.size := by rw [← h86, ByteArray.size_append] <;> rfl
        have Z86 := Lib.hid (show ¬ 9223372036854775807 < (bs x).size + s85.size by omega)
        clear yx y78 y84 y79 y80 y85 y86
        have HS : Hid (∀ W' W'', Below W.heap.size W W' → Below W'.heap.size W' W'' → Below W.heap.size W W'') := Lib.hid (fun W' W'' h1 h2 => below_nextR h2 h1)
        refine wp_region_inv [74, 75, 76, 77, 78, 79, 80, 81, 82, 83, 84, 85, 86, 4] (RI [some (74, .string (bs x)), some (75, .func (.func 29) #[] #[]), some (76, .pointer (some ⟨w.heap.size, 2, none⟩)), some (77, .int .i64 market), some (78, .string s78), some (79, .string s79), some (80, .string s80), some (81, .func (.func 29) #[] #[]), some (82, .pointer (some ⟨w.heap.size, 3, none⟩)), some (83, .int .i64 n), some (84, .string s84), some (85, .string s85), some (86, .string s86), some (4, .string s86)] (fun W' => Below W.heap.size W W') (fun L g' _ => Was 0 4 (.string (bs x)) L g')) (mk := ?mk11b) ?hmk11b rfl (by kernel_rfl) (by kernel_rfl) ?h011b ?hs11b ?hf11b
        case hmk11b =>
          intro g'
          simp only [patch, List.foldl_cons, List.foldl_nil, List.setIfInBounds_toArray, List.set_cons_zero, List.set_cons_succ]
          exact rfl
        case h011b => exact ⟨(Below.refl _ _).drew, fun i d v _ h => (nomatch h), fun _ => by simp [e4]⟩
        case hs11b =>
          refine StepsOK.cons (StepOK.plain rfl ?_) ?_
          · intro L g W hR hl hd K hK
            have e4 := hR.x hl
            clear hl
            go_simp
            refine hK _ _ _ ?_ (hR.stepV rfl rfl (by kernel_rfl) hR.s (hR.x.keep (by decide)))
            first | exact rfl | go_simp
          refine StepsOK.cons (StepOK.plain rfl ?_) ?_
          · intro L g W hR hl hd K hK
            clear hl
            go_simp
            refine hK _ _ _ ?_ (hR.stepV rfl rfl (by kernel_rfl) hR.s (hR.x.keep (by decide)))
            first | exact rfl | go_simp
          refine StepsOK.cons (StepOK.plain rfl ?_) ?_
          · intro L g W hR hl hd K hK
            clear hl
            go_simp
            refine hK _ _ _ ?_ (hR.stepV rfl rfl (by kernel_rfl) hR.s (hR.x.keep (by decide)))
            first | exact rfl | go_simp
          refine StepsOK.cons (StepOK.plain rfl ?_) ?_
          · intro L g W hR hl hd K hK
            have e2 := hR.val 2 rfl (dep hd 2 (by kernel_rfl))
            have cl := HCL.out W hR.s 2; simp at cl
            clear hl
            go_simp
            refine hK _ _ _ ?_ (hR.stepV rfl rfl (by kernel_rfl) hR.s (hR.x.keep (by decide)))
            first | exact rfl | go_simp
          refine StepsOK.cons (StepOK.plain rfl ?_) ?_
          · intro L g W hR hl hd K hK
            have e1 := hR.val 1 rfl (dep hd 1 (by kernel_rfl))
            have e3 := hR.val 3 rfl (dep hd 3 (by kernel_rfl))
            clear hl
            go_simp
            refine (H78.out W hR.s).mono ?_
            rintro e W' ⟨rfl, hb⟩
            go_simp
            refine hK _ _ _ ?_ (hR.stepV rfl rfl (by kernel_rfl) (HS.out W W' hR.s hb) (hR.x.keep (by decide)))
            first | exact rfl | go_simp
          refine StepsOK.cons (StepOK.plain rfl ?_) ?_
          · intro L g W hR hl hd K hK
            have e4 := hR.val 4 rfl (dep hd 4 (by kernel_rfl))
            have z := Z79.out
            clear hl
            go_simp
            refine hK _ _ _ ?_ (hR.stepV rfl rfl (by kernel_rfl) hR.s (hR.x.keep (by decide)))
            first | exact rfl | go_simp
          refine StepsOK.cons (StepOK.plain rfl ?_) ?_
          · intro L g W hR hl hd K hK
            have e5 := hR.val 5 rfl (dep hd 5 (by kernel_rfl))
            have z := Z80.out
            clear hl
            go_simp
            refine hK _ _ _ ?_ (hR.stepV rfl rfl (by kernel_rfl) hR.s (hR.x.keep (by decide)))
            first | exact rfl | go_simp
          refine StepsOK.cons (StepOK.plain rfl ?_) ?_
          · intro L g W hR hl hd K hK
            clear hl
            go_simp
            refine hK _ _ _ ?_ (hR.stepV rfl rfl (by kernel_rfl) hR.s (hR.x.keep (by decide)))
            first | exact rfl | go_simp
          refine StepsOK.cons (StepOK.plain rfl ?_) ?_
          · intro L g W hR hl hd K hK
            clear hl
            go_simp
            refine hK _ _ _ ?_ (hR.stepV rfl rfl (by kernel_rfl) hR.s (hR.x.keep (by decide)))
            first | exact rfl | go_simp
          refine StepsOK.cons (StepOK.plain rfl ?_) ?_
          · intro L g W hR hl hd K hK
            have e8 := hR.val 8 rfl (dep hd 8 (by kernel_rfl))
            have cl := HCL.out W hR.s 3; simp at cl
            clear hl
            go_simp
            refine hK _ _ _ ?_ (hR.stepV rfl rfl (by kernel_rfl) hR.s (hR.x.keep (by decide)))
            first | exact rfl | go_simp
          refine StepsOK.cons (StepOK.plain rfl ?_) ?_
          · intro L g W hR hl hd K hK
            have e7 := hR.val 7 rfl (dep hd 7 (by kernel_rfl))
            have e9 := hR.val 9 rfl (dep hd 9 (by kernel_rfl))
            clear hl
            go_simp
            refine (H84.out W hR.s).mono ?_
            rintro e W' ⟨rfl, hb⟩
            go_simp
            refine hK _ _ _ ?_ (hR.stepV rfl rfl (by kernel_rfl) (HS.out W W' hR.s hb) (hR.x.keep (by decide)))
            first | exact rfl | go_simp
          refine StepsOK.cons (StepOK.plain rfl ?_) ?_
          · intro L g W hR hl hd K hK
            have e6 := hR.val 6 rfl (dep hd 6 (by kernel_rfl))
            have e10 := hR.val 10 rfl (dep hd 10 (by kernel_rfl))
            have z := Z85.out
            clear hl
            go_simp
            refine hK _ _ _ ?_ (hR.stepV rfl rfl (by kernel_rfl) hR.s (hR.x.keep (by decide)))
            first | exact rfl | go_simp
          refine StepsOK.cons (StepOK.plain rfl ?_) ?_
          · intro L g W hR hl hd K hK
            have e0 := hR.val 0 rfl (dep hd 0 (by kernel_rfl))
            have e11 := hR.val 11 rfl (dep hd 11 (by kernel_rfl))
            have z := Z86.out
            clear hl
            go_simp
            refine hK _ _ _ ?_ (hR.stepV rfl rfl (by kernel_rfl) hR.s (hR.x.keep (by decide)))
            first | exact rfl | go_simp
          refine StepsOK.cons (StepOK.plain rfl ?_) ?_
          · intro L g W hR hl hd K hK
            have e12 := hR.val 12 rfl (dep hd 12 (by kernel_rfl))
            clear hl
            go_simp
            refine hK _ _ _ ?_ (hR.stepV rfl rfl (by kernel_rfl) hR.s (Was.over (dep hd 0 (by kernel_rfl))))
            first | exact rfl | go_simp
          exact StepsOK.nil
        case hf11b =>
          intro L g' W' hL hR
          have hb3 := hR.s
          have e4' := hR.val 13 rfl (hL 13 (by decide))
          clear hR hL HW2
          clear HS
          clear H78
          clear H84
          have G79 := Lib.hid h79
          clear h79
          have G80 := Lib.hid h80
          clear h80
          have G85 := Lib.hid h85
          clear h85
          have G86 := Lib.hid h86
          clear h86
          go_wp2_with fail
          go_ret
          refine ⟨?_, hbw.trans (hb3.mono hbw.size)⟩
          have HT : s86 = bs t := by
            rw [← HCC.out, mkt_text HA.out, HXK.out, ← G86.out, ← G85.out, ← G80.out, ← G79.out, ← G78.out, ← G84.out]
            exact bs_two _ _ _
          simp [e4', HT]
    · clear hkk
      subst hC
      obtain ⟨⟨hh1, hh4⟩, hsd⟩ := HP.out rfl
      obtain ⟨hn, hhd⟩ : ∃ hn : Nat, how = (hn : Int) := ⟨how.toNat, by omega⟩
      have hj0 : (0 : Int) ≤ (hn : Int) := by omega
      have hj5 : (hn : Int) < 5 := by omega
      have hwx : sortsL[hn]? = some (howW how) := by
        rcases (show how = 1 ∨ how = 2 ∨ how = 3 ∨ how = 4 by omega) with e | e | e | e
        · rw [show hn = 1 by omega, e]; rfl
        · rw [show hn = 2 by omega, e]; rfl
        · rw [show hn = 3 by omega, e]; rfl
        · rw [show hn = 4 by omega, e]; rfl
      generalize hhw : howW how = hw at hwx
      have HWX := Lib.hid hwx
      have HHW := Lib.hid hhw
      have HHD := Lib.hid hhd
      have HJ0 := Lib.hid hj0
      have HJ5 := Lib.hid hj5
      have HSD := Lib.hid hsd
      have HST := Lib.hid (fun (W' : World) (h : Below W.heap.size W W') => sorts_any W' (HW2.next h))
      clear hwx hhw hhd hj0 hj5 hsd hh1 hh4
      go_upto_region 6 with (fail)
      obtain ⟨s44, h44⟩ : ∃ s, bs (if oside = 1 then buyL else sellL) = s := ⟨_, rfl⟩
      have y44 : s44.size ≤ 20 := by rw [← h44, bs_size]; split <;> decide
      have G44 := Lib.hid h44
      clear h44
      obtain ⟨s31, h31⟩ : ∃ s, bs (Lib.itoa acc) = s := ⟨_, rfl⟩
      have H31 : Hid (∀ W', Below W.heap.size W W' → Calls Tryd.prog 29 #[.int .i64 acc] W' fun e W'' => e = .returned (.string s31) ∧ Below W'.heap.size W' W'') := Lib.hid (fun W' h => by rw [← h31]; exact itoa_any acc HF.out.1 W' (HW2.next h).env)
      have G31 := Lib.hid h31
      clear h31
      obtain ⟨s37, h37⟩ : ∃ s, bs (Lib.itoa market) = s := ⟨_, rfl⟩
      have H37 : Hid (∀ W', Below W.heap.size W W' → Calls Tryd.prog 29 #[.int .i64 market] W' fun e W'' => e = .returned (.string s37) ∧ Below W'.heap.size W' W'') := Lib.hid (fun W' h => by rw [← h37]; exact itoa_any market HF.out.2.1 W' (HW2.next h).env)
      have G37 := Lib.hid h37
      clear h37
      obtain ⟨s50, h50⟩ : ∃ s, bs (Lib.itoa oqty) = s := ⟨_, rfl⟩
      have H50 : Hid (∀ W', Below W.heap.size W W' → Calls Tryd.prog 29 #[.int .i64 oqty] W' fun e W'' => e = .returned (.string s50) ∧ Below W'.heap.size W' W'') := Lib.hid (fun W' h => by rw [← h50]; exact itoa_any oqty HF.out.2.2.2.2 W' (HW2.next h).env)
      have G50 := Lib.hid h50
      clear h50
      obtain ⟨s57, h57⟩ : ∃ s, bs (Lib.itoa oprice) = s := ⟨_, rfl⟩
      have H57 : Hid (∀ W', Below W.heap.size W W' → Calls Tryd.prog 29 #[.int .i64 oprice] W' fun e W'' => e = .returned (.string s57) ∧ Below W'.heap.size W' W'') := Lib.hid (fun W' h => by rw [← h57]; exact itoa_any oprice HF.out.2.2.2.1 W' (HW2.next h).env)
      have G57 := Lib.hid h57
      clear h57
      have yx : (bs x).size ≤ 20 := by rw [bs_size, ← HXK.out]; exact kindW_len 3
      have yh : (bs hw).size ≤ 20 := by rw [bs_size, ← HHW.out]; exact howW_len how
      have y31 : s31.size ≤ 40 := by rw [← G31.out, bs_size]; exact itoa_len acc HF.out.1
      have y37 : s37.size ≤ 40 := by rw [← G37.out, bs_size]; exact itoa_len market HF.out.2.1
      have y50 : s50.size ≤ 40 := by rw [← G50.out, bs_size]; exact itoa_len oqty HF.out.2.2.2.2
      have y57 : s57.size ≤ 40 := by rw [← G57.out, bs_size]; exact itoa_len oprice HF.out.2.2.2.1
      obtain ⟨s32, h32⟩ : ∃ s, (⟨#[32]⟩ : ByteArray) ++ s31 = s := ⟨_, rfl⟩
      have y32 : s32.size = 1 + s31.size := by rw [← h32, ByteArray.size_append] <;> rfl
      have Z32 := Lib.hid (show ¬ 9223372036854775807 < 1 + s31.size by omega)
      obtain ⟨s33, h33⟩ : ∃ s, s32 ++ (⟨#[32]⟩ : ByteArray) = s := ⟨_, rfl⟩
      have y33 : s33.size = s32.size + 1 := by rw [← h33, ByteArray.size_append] <;> rfl
      have Z33 := Lib.hid (show ¬ 9223372036854775807 < s32.size + 1 by omega)
      obtain ⟨s38, h38⟩ : ∃ s, s33 ++ s37 = s := ⟨_, rfl⟩
      have y38 : s38.size = s33.size + s37.size := by rw [← h38, ByteArray.size_append] <;> rfl
      have Z38 := Lib.hid (show ¬ 9223372036854775807 < s33.size + s37.size by omega)
      obtain ⟨s45, h45⟩ : ∃ s, s38 ++ s44 = s := ⟨_, rfl⟩
      have y45 : s45.size = s38.size + s44.size := by rw [← h45, ByteArray.size_append] <;> rfl
      have Z45 := Lib.hid (show ¬ 9223372036854775807 < s38.size + s44.size by omega)
      obtain ⟨s51, h51⟩ : ∃ s, s45 ++ s50 = s := ⟨_, rfl⟩
      have y51 : s51.size = s45.size + s50.size := by rw [← h51, ByteArray.size_append] <;> rfl
      have Z51 := Lib.hid (show ¬ 9223372036854775807 < s45.size + s50.size by omega)
      obtain ⟨s52, h52⟩ : ∃ s, s51 ++ (⟨#[32]⟩ : ByteArray) = s := ⟨_, rfl⟩
      have y52 : s52.size = s51.size + 1 := by rw [← h52, ByteArray.size_append] <;> rfl
      have Z52 := Lib.hid (show ¬ 9223372036854775807 < s51.size + 1 by omega)
      obtain ⟨s58, h58⟩ : ∃ s, s52 ++ s57 = s := ⟨_, rfl⟩
      have y58 : s58.size = s52.size + s57.size := by rw [← h58, ByteArray.size_append] <;> rfl
      have Z58 := Lib.hid (show ¬ 9223372036854775807 < s52.size + s57.size by omega)
      obtain ⟨s59, h59⟩ : ∃ s, s58 ++ (⟨#[32]⟩ : ByteArray) = s := ⟨_, rfl⟩
      have y59 : s59.size = s58.size + 1 := by rw [← h59, ByteArray.size_append] <;> rfl
      have Z59 := Lib.hid (show ¬ 9223372036854775807 < s58.size + 1 by omega)
      obtain ⟨s65, h65⟩ : ∃ s, s59 ++ bs hw = s := ⟨_, rfl⟩
      have y65 : s65.size = s59.size + (bs hw).size := by rw [← h65, ByteArray.size_append] <;> rfl
      have Z65 := Lib.hid (show ¬ 9223372036854775807 < s59.size + (bs hw).size by omega)
      obtain ⟨s66, h66⟩ : ∃ s, bs x ++ s65 = s := ⟨_, rfl⟩
      have y66 : s66.size = (bs x).size + s65.size := by rw [← h66, ByteArray.size_append] <;> rfl
      have Z66 := Lib.hid (show ¬ 9223372036854775807 < (bs x).size + s65.size by omega)
      have Y66 := Lib.hid (show s66.size ≤ 1000 by omega)
      clear yx yh y44 y31 y37 y50 y57 y32 y33 y38 y45 y51 y52 y58 y59 y65 y66
      have HS : Hid (∀ W' W'', Below W.heap.size W W' → Below W'.heap.size W' W'' → Below W.heap.size W W'') := Lib.hid (fun W' W'' h1 h2 => below_nextR h2 h1)
      refine wp_region_inv [27, 28, 29, 30, 31, 32, 33, 34, 35, 36, 37, 38, 39, 40, 41, 42, 43, 44, 45, 46, 47, 48, 49, 50, 51, 52, 53, 54, 55, 56, 57, 58, 59, 60, 61, 62, 63, 64, 65, 66, 4] (RI [some (27, .string (bs x)), some (28, .func (.func 29) #[] #[]), some (29, .pointer (some ⟨w.heap.size, 1, none⟩)), some (30, .int .i64 acc), some (31, .string s31), some (32, .string s32), some (33, .string s33), some (34, .func (.func 29) #[] #[]), some (35, .pointer (some ⟨w.heap.size, 2, none⟩)), some (36, .int .i64 market), some (37, .string s37), some (38, .string s38), none, none, none, none, some (41, .pointer (some ⟨w.heap.size, 4, none⟩)), some (42, .pointer (some ⟨w.heap.size, 6, none⟩)), some (43, .int .i64 oside), some (44, .string s44), some (45, .string s45), some (46, .func (.func 29) #[] #[]), some (47, .pointer (some ⟨w.heap.size, 4, none⟩)), some (48, .pointer (some ⟨w.heap.size, 8, none⟩)), some (49, .int .i64 oqty), some (50, .string s50), some (51, .string s51), some (52, .string s52), some (53, .func (.func 29) #[] #[]), some (54, .pointer (some ⟨w.heap.size, 4, none⟩)), some (55, .pointer (some ⟨w.heap.size, 7, none⟩)), some (56, .int .i64 oprice), some (57, .string s57), some (58, .string s58), some (59, .string s59), none, some (61, .pointer (some ⟨w.heap.size, 9, none⟩)), some (62, .int .i64 how), none, some (64, .string (bs hw)), some (65, .string s65), some (66, .string s66), some (4, .string s66)] (fun W' => Below W.heap.size W W') (X6 W.heap.size hn hw x)) (mk := ?mk6) ?hmk6 rfl (by kernel_rfl) (by kernel_rfl) ?h06 ?hs6 ?hf6
      case hmk6 =>
        intro g'
        simp only [patch, List.foldl_cons, List.foldl_nil, List.setIfInBounds_toArray, List.set_cons_zero, List.set_cons_succ]
        exact rfl
      case h06 => exact ⟨(Below.refl _ _).drew, fun i d v _ h => (nomatch h), ⟨nofun, ⟨nofun, nofun, nofun⟩, nofun, nofun, fun _ => by simp [e4]⟩⟩
      case hs6 =>
        refine StepsOK.cons (StepOK.plain rfl ?_) ?_
        · intro L g W1 hR hl hd K hK
          have e4 := hR.x.v hl
          clear hl
          go_simp
          refine hK _ _ _ ?_ (hR.stepV rfl rfl (by kernel_rfl) hR.s (hR.x.keep (Below.refl _ _) (by decide) (by decide)))
          first | exact rfl | go_simp
        refine StepsOK.cons (StepOK.plain rfl ?_) ?_
        · intro L g W1 hR hl hd K hK
          clear hl
          go_simp
          refine hK _ _ _ ?_ (hR.stepV rfl rfl (by kernel_rfl) hR.s (hR.x.keep (Below.refl _ _) (by decide) (by decide)))
          first | exact rfl | go_simp
        refine StepsOK.cons (StepOK.plain rfl ?_) ?_
        · intro L g W1 hR hl hd K hK
          clear hl
          go_simp
          refine hK _ _ _ ?_ (hR.stepV rfl rfl (by kernel_rfl) hR.s (hR.x.keep (Below.refl _ _) (by decide) (by decide)))
          first | exact rfl | go_simp
        refine StepsOK.cons (StepOK.plain rfl ?_) ?_
        · intro L g W1 hR hl hd K hK
          have e2 := hR.val 2 rfl (dep hd 2 (by kernel_rfl))
          have cl := HCL.out W1 hR.s 1; simp at cl
          clear hl
          go_simp
          refine hK _ _ _ ?_ (hR.stepV rfl rfl (by kernel_rfl) hR.s (hR.x.keep (Below.refl _ _) (by decide) (by decide)))
          first | exact rfl | go_simp
        refine StepsOK.cons (StepOK.plain rfl ?_) ?_
        · intro L g W1 hR hl hd K hK
          have e1 := hR.val 1 rfl (dep hd 1 (by kernel_rfl))
          have e3 := hR.val 3 rfl (dep hd 3 (by kernel_rfl))
          clear hl
          go_simp
          refine (H31.out W1 hR.s).mono ?_
          rintro e W1' ⟨rfl, hb⟩
          go_simp
          refine hK _ _ _ ?_ (hR.stepV rfl rfl (by kernel_rfl) (HS.out W1 W1' hR.s hb) (hR.x.keep hb (by decide) (by decide)))
          first | exact rfl | go_simp
        refine StepsOK.cons (StepOK.plain rfl ?_) ?_
        · intro L g W1 hR hl hd K hK
          have e4 := hR.val 4 rfl (dep hd 4 (by kernel_rfl))
          have z := Z32.out
          clear hl
          go_simp
          refine hK _ _ _ ?_ (hR.stepV rfl rfl (by kernel_rfl) hR.s (hR.x.keep (Below.refl _ _) (by decide) (by decide)))
          first | exact rfl | go_simp
        refine StepsOK.cons (StepOK.plain rfl ?_) ?_
        · intro L g W1 hR hl hd K hK
          have e5 := hR.val 5 rfl (dep hd 5 (by kernel_rfl))
          have z := Z33.out
          clear hl
          go_simp
          refine hK _ _ _ ?_ (hR.stepV rfl rfl (by kernel_rfl) hR.s (hR.x.keep (Below.refl _ _) (by decide) (by decide)))
          first | exact rfl | go_simp
        refine StepsOK.cons (StepOK.plain rfl ?_) ?_
        · intro L g W1 hR hl hd K hK
          clear hl
          go_simp
          refine hK _ _ _ ?_ (hR.stepV rfl rfl (by kernel_rfl) hR.s (hR.x.keep (Below.refl _ _) (by decide) (by decide)))
          first | exact rfl | go_simp
        refine StepsOK.cons (StepOK.plain rfl ?_) ?_
        · intro L g W1 hR hl hd K hK
          clear hl
          go_simp
          refine hK _ _ _ ?_ (hR.stepV rfl rfl (by kernel_rfl) hR.s (hR.x.keep (Below.refl _ _) (by decide) (by decide)))
          first | exact rfl | go_simp
        refine StepsOK.cons (StepOK.plain rfl ?_) ?_
        · intro L g W1 hR hl hd K hK
          have e8 := hR.val 8 rfl (dep hd 8 (by kernel_rfl))
          have cl := HCL.out W1 hR.s 2; simp at cl
          clear hl
          go_simp
          refine hK _ _ _ ?_ (hR.stepV rfl rfl (by kernel_rfl) hR.s (hR.x.keep (Below.refl _ _) (by decide) (by decide)))
          first | exact rfl | go_simp
        refine StepsOK.cons (StepOK.plain rfl ?_) ?_
        · intro L g W1 hR hl hd K hK
          have e7 := hR.val 7 rfl (dep hd 7 (by kernel_rfl))
          have e9 := hR.val 9 rfl (dep hd 9 (by kernel_rfl))
          clear hl
          go_simp
          refine (H37.out W1 hR.s).mono ?_
          rintro e W1' ⟨rfl, hb⟩
          go_simp
          refine hK _ _ _ ?_ (hR.stepV rfl rfl (by kernel_rfl) (HS.out W1 W1' hR.s hb) (hR.x.keep hb (by decide) (by decide)))
          first | exact rfl | go_simp
        refine StepsOK.cons (StepOK.plain rfl ?_) ?_
        · intro L g W1 hR hl hd K hK
          have e6 := hR.val 6 rfl (dep hd 6 (by kernel_rfl))
          have e10 := hR.val 10 rfl (dep hd 10 (by kernel_rfl))
          have z := Z38.out
          clear hl
          go_simp
          refine hK _ _ _ ?_ (hR.stepV rfl rfl (by kernel_rfl) hR.s (hR.x.keep (Below.refl _ _) (by decide) (by decide)))
          first | exact rfl | go_simp
        refine StepsOK.cons (StepOK.plain rfl ?_) ?_
        · intro L g W1 hR hl hd K hK
          go_simp
          refine hK _ _ _ ?_ (hR.stepN rfl (by kernel_rfl) (HS.out W1 _ hR.s ((Below.refl _ _).alloc (Nat.le_refl _) _)) (hR.x.made hl hR.s.size))
          first | exact rfl | go_simp
        refine StepsOK.cons (StepOK.plain rfl ?_) ?_
        · intro L g W1 hR hl hd K hK
          obtain ⟨b, W1', e39, hr, hB, hg, hx⟩ := hR.x.put1 hl (dep hd 12 (by kernel_rfl))
          have hb : Below W.heap.size W W1' := hR.s.grown hg hR.s.size (fun k e => (by injection e with e; omega))
          clear hl hg
          go_simp
          refine hK _ undef _ ?_ (hR.stepN rfl (by kernel_rfl) hb (hx _))
          first | exact rfl | go_simp
        refine StepsOK.cons (StepOK.plain rfl ?_) ?_
        · intro L g W1 hR hl hd K hK
          obtain ⟨b, W1', e39, hr, hB, hg, hx⟩ := hR.x.put2 hl (dep hd 12 (by kernel_rfl))
          have hb : Below W.heap.size W W1' := hR.s.grown hg hR.s.size (fun k e => (by injection e with e; omega))
          clear hl hg
          go_simp
          refine hK _ undef _ ?_ (hR.stepN rfl (by kernel_rfl) hb (hx _))
          first | exact rfl | go_simp
        refine StepsOK.cons (StepOK.plain rfl ?_) ?_
        · intro L g W1 hR hl hd K hK
          obtain ⟨b, e39, -⟩ := hR.x.m (dep hd 12 (by kernel_rfl))
          have hx := hR.x.moved (dep hd 12 (by kernel_rfl)) (dep hd 13 (by kernel_rfl)) (dep hd 14 (by kernel_rfl)) e39
          clear hl
          go_simp
          refine hK _ _ _ ?_ (hR.stepN rfl (by kernel_rfl) hR.s hx)
          first | exact rfl | go_simp
        refine StepsOK.cons (StepOK.plain rfl ?_) ?_
        · intro L g W1 hR hl hd K hK
          clear hl
          go_simp
          refine hK _ _ _ ?_ (hR.stepV rfl rfl (by kernel_rfl) hR.s (hR.x.keep (Below.refl _ _) (by decide) (by decide)))
          first | exact rfl | go_simp
        refine StepsOK.cons (StepOK.plain rfl ?_) ?_
        · intro L g W1 hR hl hd K hK
          have e16 := hR.val 16 rfl (dep hd 16 (by kernel_rfl))
          clear hl
          go_simp
          refine hK _ _ _ ?_ (hR.stepV rfl rfl (by kernel_rfl) hR.s (hR.x.keep (Below.refl _ _) (by decide) (by decide)))
          first | exact rfl | go_simp
        refine StepsOK.cons (StepOK.plain rfl ?_) ?_
        · intro L g W1 hR hl hd K hK
          have e17 := hR.val 17 rfl (dep hd 17 (by kernel_rfl))
          have cl := HCL.out W1 hR.s 6; simp at cl
          clear hl
          go_simp
          refine hK _ _ _ ?_ (hR.stepV rfl rfl (by kernel_rfl) hR.s (hR.x.keep (Below.refl _ _) (by decide) (by decide)))
          first | exact rfl | go_simp
        refine StepsOK.cons (StepOK.plain rfl ?_) ?_
        · intro L g W1 hR hl hd K hK
          have e18 := hR.val 18 rfl (dep hd 18 (by kernel_rfl))
          obtain ⟨b, e40, hr⟩ := hR.x.look (dep hd 15 (by kernel_rfl)) oside HSD.out
          rw [G44.out] at hr
          clear hl
          go_simp
          refine hK _ _ _ ?_ (hR.stepV rfl rfl (by kernel_rfl) hR.s (hR.x.keep (Below.refl _ _) (by decide) (by decide)))
          first | exact rfl | go_simp
        refine StepsOK.cons (StepOK.plain rfl ?_) ?_
        · intro L g W1 hR hl hd K hK
          have e11 := hR.val 11 rfl (dep hd 11 (by kernel_rfl))
          have e19 := hR.val 19 rfl (dep hd 19 (by kernel_rfl))
          have z := Z45.out
          clear hl
          go_simp
          refine hK _ _ _ ?_ (hR.stepV rfl rfl (by kernel_rfl) hR.s (hR.x.keep (Below.refl _ _) (by decide) (by decide)))
          first | exact rfl | go_simp
        refine StepsOK.cons (StepOK.plain rfl ?_) ?_
        · intro L g W1 hR hl hd K hK
          clear hl
          go_simp
          refine hK _ _ _ ?_ (hR.stepV rfl rfl (by kernel_rfl) hR.s (hR.x.keep (Below.refl _ _) (by decide) (by decide)))
          first | exact rfl | go_simp
        refine StepsOK.cons (StepOK.plain rfl ?_) ?_
        · intro L g W1 hR hl hd K hK
          clear hl
          go_simp
          refine hK _ _ _ ?_ (hR.stepV rfl rfl (by kernel_rfl) hR.s (hR.x.keep (Below.refl _ _) (by decide) (by decide)))
          first | exact rfl | go_simp
        refine StepsOK.cons (StepOK.plain rfl ?_) ?_
        · intro L g W1 hR hl hd K hK
          have e22 := hR.val 22 rfl (dep hd 22 (by kernel_rfl))
          clear hl
          go_simp
          refine hK _ _ _ ?_ (hR.stepV rfl rfl (by kernel_rfl) hR.s (hR.x.keep (Below.refl _ _) (by decide) (by decide)))
          first | exact rfl | go_simp
        refine StepsOK.cons (StepOK.plain rfl ?_) ?_
        · intro L g W1 hR hl hd K hK
          have e23 := hR.val 23 rfl (dep hd 23 (by kernel_rfl))
          have cl := HCL.out W1 hR.s 8; simp at cl
          clear hl
          go_simp
          refine hK _ _ _ ?_ (hR.stepV rfl rfl (by kernel_rfl) hR.s (hR.x.keep (Below.refl _ _) (by decide) (by decide)))
          first | exact rfl | go_simp
        refine StepsOK.cons (StepOK.plain rfl ?_) ?_
        · intro L g W1 hR hl hd K hK
          have e21 := hR.val 21 rfl (dep hd 21 (by kernel_rfl))
          have e24 := hR.val 24 rfl (dep hd 24 (by kernel_rfl))
          clear hl
          go_simp
          refine (H50.out W1 hR.s).mono ?_
          rintro e W1' ⟨rfl, hb⟩
          go_simp
          refine hK _ _ _ ?_ (hR.stepV rfl rfl (by kernel_rfl) (HS.out W1 W1' hR.s hb) (hR.x.keep hb (by decide) (by decide)))
          first | exact rfl | go_simp
        refine StepsOK.cons (StepOK.plain rfl ?_) ?_
        · intro L g W1 hR hl hd K hK
          have e20 := hR.val 20 rfl (dep hd 20 (by kernel_rfl))
          have e25 := hR.val 25 rfl (dep hd 25 (by kernel_rfl))
          have z := Z51.out
          clear hl
          go_simp
          refine hK _ _ _ ?_ (hR.stepV rfl rfl (by kernel_rfl) hR.s (hR.x.keep (Below.refl _ _) (by decide) (by decide)))
          first | exact rfl | go_simp
        refine StepsOK.cons (StepOK.plain rfl ?_) ?_
        · intro L g W1 hR hl hd K hK
          have e26 := hR.val 26 rfl (dep hd 26 (by kernel_rfl))
          have z := Z52.out
          clear hl
          go_simp
          refine hK _ _ _ ?_ (hR.stepV rfl rfl (by kernel_rfl) hR.s (hR.x.keep (Below.refl _ _) (by decide) (by decide)))
          first | exact rfl | go_simp
        refine StepsOK.cons (StepOK.plain rfl ?_) ?_
        · intro L g W1 hR hl hd K hK
          clear hl
          go_simp
          refine hK _ _ _ ?_ (hR.stepV rfl rfl (by kernel_rfl) hR.s (hR.x.keep (Below.refl _ _) (by decide) (by decide)))
          first | exact rfl | go_simp
        refine StepsOK.cons (StepOK.plain rfl ?_) ?_
        · intro L g W1 hR hl hd K hK
          clear hl
          go_simp
          refine hK _ _ _ ?_ (hR.stepV rfl rfl (by kernel_rfl) hR.s (hR.x.keep (Below.refl _ _) (by decide) (by decide)))
          first | exact rfl | go_simp
        refine StepsOK.cons (StepOK.plain rfl ?_) ?_
        · intro L g W1 hR hl hd K hK
          have e29 := hR.val 29 rfl (dep hd 29 (by kernel_rfl))
          clear hl
          go_simp
          refine hK _ _ _ ?_ (hR.stepV rfl rfl (by kernel_rfl) hR.s (hR.x.keep (Below.refl _ _) (by decide) (by decide)))
          first | exact rfl | go_simp
        refine StepsOK.cons (StepOK.plain rfl ?_) ?_
        · intro L g W1 hR hl hd K hK
          have e30 := hR.val 30 rfl (dep hd 30 (by kernel_rfl))
          have cl := HCL.out W1 hR.s 7; simp at cl
          clear hl
          go_simp
          refine hK _ _ _ ?_ (hR.stepV rfl rfl (by kernel_rfl) hR.s (hR.x.keep (Below.refl _ _) (by decide) (by decide)))
          first | exact rfl | go_simp
        refine StepsOK.cons (StepOK.plain rfl ?_) ?_
        · intro L g W1 hR hl hd K hK
          have e28 := hR.val 28 rfl (dep hd 28 (by kernel_rfl))
          have e31 := hR.val 31 rfl (dep hd 31 (by kernel_rfl))
          clear hl
          go_simp
          refine (H57.out W1 hR.s).mono ?_
          rintro e W1' ⟨rfl, hb⟩
          go_simp
          refine hK _ _ _ ?_ (hR.stepV rfl rfl (by kernel_rfl) (HS.out W1 W1' hR.s hb) (hR.x.keep hb (by decide) (by decide)))
          first | exact rfl | go_simp
        refine StepsOK.cons (StepOK.plain rfl ?_) ?_
        · intro L g W1 hR hl hd K hK
          have e27 := hR.val 27 rfl (dep hd 27 (by kernel_rfl))
          have e32 := hR.val 32 rfl (dep hd 32 (by kernel_rfl))
          have z := Z58.out
          clear hl
          go_simp
          refine hK _ _ _ ?_ (hR.stepV rfl rfl (by kernel_rfl) hR.s (hR.x.keep (Below.refl _ _) (by decide) (by decide)))
          first | exact rfl | go_simp
        refine StepsOK.cons (StepOK.plain rfl ?_) ?_
        · intro L g W1 hR hl hd K hK
          have e33 := hR.val 33 rfl (dep hd 33 (by kernel_rfl))
          have z := Z59.out
          clear hl
          go_simp
          refine hK _ _ _ ?_ (hR.stepV rfl rfl (by kernel_rfl) hR.s (hR.x.keep (Below.refl _ _) (by decide) (by decide)))
          first | exact rfl | go_simp
        refine StepsOK.cons (StepOK.plain rfl ?_) ?_
        · intro L g W1 hR hl hd K hK
          clear hl
          go_simp
          refine (HST.out W1 hR.s).mono ?_
          rintro e W1' ⟨rfl, hw'⟩
          have hb : Below W1.heap.size W1 W1' := by rw [hw']; exact (Below.refl _ _).alloc (Nat.le_refl _) _
          have hc : W1'.cell? ⟨W1.heap.size, hn, none⟩ = some (.string (bs hw)) := by rw [hw']; exact vcell _ _ _ _ HWX.out
          clear hw'
          go_simp
          refine hK _ _ _ ?_ (hR.stepN rfl (by kernel_rfl) (HS.out W1 W1' hR.s hb) (hR.x.got hb hc))
          first | exact rfl | go_simp
        refine StepsOK.cons (StepOK.plain rfl ?_) ?_
        · intro L g W1 hR hl hd K hK
          clear hl
          go_simp
          refine hK _ _ _ ?_ (hR.stepV rfl rfl (by kernel_rfl) hR.s (hR.x.keep (Below.refl _ _) (by decide) (by decide)))
          first | exact rfl | go_simp
        refine StepsOK.cons (StepOK.plain rfl ?_) ?_
        · intro L g W1 hR hl hd K hK
          have e36 := hR.val 36 rfl (dep hd 36 (by kernel_rfl))
          have cl := HCL.out W1 hR.s 9; simp at cl
          clear hl
          go_simp
          refine hK _ _ _ ?_ (hR.stepV rfl rfl (by kernel_rfl) hR.s (hR.x.keep (Below.refl _ _) (by decide) (by decide)))
          first | exact rfl | go_simp
        refine StepsOK.cons (StepOK.plain rfl ?_) ?_
        · intro L g W1 hR hl hd K hK
          have e37 := hR.val 37 rfl (dep hd 37 (by kernel_rfl))
          obtain ⟨b, e60, hc⟩ := hR.x.f (dep hd 35 (by kernel_rfl))
          have hhd := HHD.out
          have hj0 := HJ0.out
          have hj5 := HJ5.out
          clear hl
          go_simp
          refine hK _ _ _ ?_ (hR.stepN rfl (by kernel_rfl) hR.s (hR.x.point hc))
          first | exact rfl | go_simp
        refine StepsOK.cons (StepOK.plain rfl ?_) ?_
        · intro L g W1 hR hl hd K hK
          obtain ⟨b, e63, hc⟩ := hR.x.p (dep hd 38 (by kernel_rfl))
          clear hl
          go_simp
          refine hK _ _ _ ?_ (hR.stepV rfl rfl (by kernel_rfl) hR.s (hR.x.keep (Below.refl _ _) (by decide) (by decide)))
          first | exact rfl | go_simp
        refine StepsOK.cons (StepOK.plain rfl ?_) ?_
        · intro L g W1 hR hl hd K hK
          have e34 := hR.val 34 rfl (dep hd 34 (by kernel_rfl))
          have e39 := hR.val 39 rfl (dep hd 39 (by kernel_rfl))
          have z := Z65.out
          clear hl
          go_simp
          refine hK _ _ _ ?_ (hR.stepV rfl rfl (by kernel_rfl) hR.s (hR.x.keep (Below.refl _ _) (by decide) (by decide)))
          first | exact rfl | go_simp
        refine StepsOK.cons (StepOK.plain rfl ?_) ?_
        · intro L g W1 hR hl hd K hK
          have e0 := hR.val 0 rfl (dep hd 0 (by kernel_rfl))
          have e40 := hR.val 40 rfl (dep hd 40 (by kernel_rfl))
          have z := Z66.out
          clear hl
          go_simp
          refine hK _ _ _ ?_ (hR.stepV rfl rfl (by kernel_rfl) hR.s (hR.x.keep (Below.refl _ _) (by decide) (by decide)))
          first | exact rfl | go_simp
        refine StepsOK.cons (StepOK.plain rfl ?_) ?_
        · intro L g W1 hR hl hd K hK
          have e41 := hR.val 41 rfl (dep hd 41 (by kernel_rfl))
          clear hl
          go_simp
          refine hK _ _ _ ?_ (hR.stepV rfl rfl (by kernel_rfl) hR.s (hR.x.keep' (Below.refl _ _) (by decide) (by decide) (Was.over (dep hd 0 (by kernel_rfl)))))
          first | exact rfl | go_simp
        exact StepsOK.nil
      case hf6 =>
        intro L g' W' hL hR
        have hb3 := hR.s
        have e4' := hR.val 42 rfl (hL 42 (by decide))
        clear hR hL HW2 HS HST
        clear H31
        clear H37
        clear H50
        clear H57
        have G32 := Lib.hid h32
        clear h32
        have G33 := Lib.hid h33
        clear h33
        have G38 := Lib.hid h38
        clear h38
        have G45 := Lib.hid h45
        clear h45
        have G51 := Lib.hid h51
        clear h51
        have G52 := Lib.hid h52
        clear h52
        have G58 := Lib.hid h58
        clear h58
        have G59 := Lib.hid h59
        clear h59
        have G65 := Lib.hid h65
        clear h65
        have G66 := Lib.hid h66
        clear h66
        have cl10 := HCL.out W' hb3 10
        simp at cl10
        have HT : s66 = bs (x ++ ([32] ++ Lib.itoa acc ++ [32] ++ Lib.itoa market ++ ([32] ++ sideW oside ++ [32]) ++ Lib.itoa oqty ++ [32] ++ Lib.itoa oprice ++ [32] ++ hw)) := by
          rw [← G66.out, ← G65.out, ← G59.out, ← G58.out, ← G52.out, ← G51.out, ← G45.out, ← G38.out, ← G33.out, ← G32.out, ← G31.out, ← G37.out, ← G44.out, ← G50.out, ← G57.out]
          rw [side_text HSD.out]
          exact bs_place _ _ _ _ _ _ _
        have HT2 := Lib.hid HT
        clear HT
        have z66 : ¬ 9223372036854775807 < s66.size + 7 := by have := Y66.out; omega
        have hfin : Below w.heap.size w W' := hbw.trans (hb3.mono hbw.size)
        have HFIN := Lib.hid hfin
        clear hfin
        cases hrd : reduce with
        | false =>
          rw [hrd] at cl10
          go_wp2_with fail
          go_ret
          refine ⟨?_, HFIN.out⟩
          have HT : s66 = bs t := by
            rw [HT2.out, ← HCC.out, place_text, HXK.out, HHW.out, hrd]
            simp
          simp [HT]
        | true =>
          rw [hrd] at cl10
          go_wp2_with fail
          go_ret
          refine ⟨?_, HFIN.out⟩
          have HT : s66 ++ (⟨#[32, 114, 101, 100, 117, 99, 101]⟩ : ByteArray) = bs t := by
            rw [HT2.out, ← HCC.out, place_text, HXK.out, HHW.out, hrd, show (⟨#[32, 114, 101, 100, 117, 99, 101]⟩ : ByteArray) = bs ([32] ++ wReduce) from rfl, bs_app]
            simp
          simp [HT]
    · clear hkk
      subst hD
      go_wp2_with fail
      go_ret
      refine ⟨?_, hbw⟩
      have HT : x = t := by rw [← HCC.out, ← HXK.out]; rfl
      simp [e4, HT]
end Go.Proofs.YtockodmbhnlheaaDoor
