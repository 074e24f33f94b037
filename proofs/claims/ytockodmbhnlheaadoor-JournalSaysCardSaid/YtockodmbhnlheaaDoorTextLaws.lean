/-
  PLAIN LEAN: chapter 8: what is printed is read, what is read is printed.
-/
import Derived.Test.YtockodmbhnlheaaDoorTextPure
namespace Go.Proofs.YtockodmbhnlheaaDoor

structure FitC (c : Cm) : Prop where
  acc : I64 c.acc
  market : I64 c.market
  n : I64 c.n
  price : I64 c.o.price
  qty : I64 c.o.qty

theorem i64_zero : I64 0 := ⟨by decide, by decide⟩
theorem want_other {c : Cm} (h1 : isCash c.kind = false) (h2 : isMkt c.kind = false) (h3 : c.kind ≠ 3) : wantOf c = { zeroCm with kind := c.kind } := by
  unfold wantOf; rw [h1, h2, if_neg (by simp), if_neg (by simp), if_neg h3]
theorem textErr_ok {c : Cm} (h : textErr c = 0) : (1 ≤ c.kind ∧ c.kind ≤ 7) ∧ (c.kind = 3 → (1 ≤ c.how ∧ c.how ≤ 4) ∧ (c.o.side = 1 ∨ c.o.side = -1)) ∧ c = wantOf c := by
  unfold textErr at h
  split at h
  · cases h
  rename_i h1
  split at h
  · cases h
  rename_i h2
  split at h
  · rename_i h3
    exact ⟨by omega, fun hk => by omega, eqCm_iff.1 h3⟩
  · cases h
theorem textErr_mk {c : Cm} (h1 : 1 ≤ c.kind ∧ c.kind ≤ 7) (h2 : c.kind = 3 → (1 ≤ c.how ∧ c.how ≤ 4) ∧ (c.o.side = 1 ∨ c.o.side = -1)) (h3 : c = wantOf c) : textErr c = 0 := by
  unfold textErr
  rw [if_neg (by omega), if_neg (fun h => by have := h2 h.1; omega), if_pos (eqCm_iff.2 h3)]

theorem two_print {k : Int} {a n : Int} (ha : I64 a) (hn : I64 n) : twoW k [Lib.itoa a, Lib.itoa n] = some (if isMkt k then { zeroCm with kind := k, market := a, n := n } else { zeroCm with kind := k, acc := a, n := n }) := by
  unfold twoW
  simp only [numOf_itoa ha, numOf_itoa hn]
theorem order_print {a m s q p h : Int} {red : Bool} (ha : I64 a) (hm : I64 m) (hq : I64 q) (hp : I64 p) (hs : s = 1 ∨ s = -1) (hh : 1 ≤ h ∧ h ≤ 4) (w : List UInt8) :
    orderW red [w, Lib.itoa a, Lib.itoa m, sideW s, Lib.itoa q, Lib.itoa p, howW h] = some ⟨3, a, m, 0, ⟨0, 0, s, p, q⟩, h, red⟩ := by
  unfold orderW
  simp only [numOf_itoa ha, numOf_itoa hm, numOf_itoa hq, numOf_itoa hp, sideOfW_sideW hs, howOf_howW hh]
  rw [if_neg (by omega)]
/-- what is printed is read. -/
theorem read_print {c : Cm} (h : textErr c = 0) (hf : FitC c) : readWords (printWords c) = some c := by
  obtain ⟨hk, h3, hw⟩ := textErr_ok h
  unfold printWords readWords
  simp only
  rw [kindOf_kindW hk, if_neg (by omega)]
  by_cases hc : isCash c.kind = true
  · have hc' := hc
    unfold isCash at hc'
    rw [decide_eq_true_eq] at hc'
    rw [if_pos hc, if_neg (by omega), if_neg (by omega), two_print hf.acc hf.n]
    have hm : isMkt c.kind = false := by unfold isMkt; exact decide_eq_false (by omega)
    rw [hm, if_neg (by simp)]
    rw [hw]
    unfold wantOf
    rw [if_pos hc]
  · rw [if_neg hc]
    rw [Bool.not_eq_true] at hc
    have hc' := hc
    unfold isCash at hc'
    rw [decide_eq_false_iff_not] at hc'
    by_cases hm : isMkt c.kind = true
    · have hm' := hm
      unfold isMkt at hm'
      rw [decide_eq_true_eq] at hm'
      rw [if_pos hm, if_neg (by omega), if_neg (by omega), two_print hf.market hf.n, hm, if_pos rfl]
      rw [hw]
      unfold wantOf
      rw [if_neg (by rw [hc]; simp), if_pos hm]
    · rw [if_neg hm]
      rw [Bool.not_eq_true] at hm
      have hm' := hm
      unfold isMkt at hm'
      rw [decide_eq_false_iff_not] at hm'
      by_cases hp : c.kind = 3
      · rw [if_pos hp, if_pos hp]
        obtain ⟨hh, hs⟩ := h3 hp
        have hcw : c = ⟨3, c.acc, c.market, 0, ⟨0, 0, c.o.side, c.o.price, c.o.qty⟩, c.how, c.reduce⟩ := by
          conv => lhs; rw [hw]
          unfold wantOf
          rw [if_neg (by rw [hc]; simp), if_neg (by rw [hm]; simp), if_pos hp]
          show (⟨c.kind, c.acc, c.market, 0, _, c.how, c.reduce⟩ : Cm) = _
          rw [hp]
        cases hr : c.reduce with
        | true =>
          rw [if_pos rfl, if_pos ⟨rfl, rfl⟩]
          show orderW true [_, _, _, _, _, _, _] = _
          rw [order_print hf.acc hf.market hf.qty hf.price hs hh]
          conv => rhs; rw [hcw, hr]
        | false =>
          rw [if_neg (by simp), if_neg (by simp)]
          show orderW false [_, _, _, _, _, _, _] = _
          rw [order_print hf.acc hf.market hf.qty hf.price hs hh]
          conv => rhs; rw [hcw, hr]
      · have h7 : c.kind = 7 := by omega
        rw [if_neg hp, if_neg hp, if_pos h7, if_pos rfl]
        rw [hw, want_other hc hm hp, h7]
theorem order_read {red : Bool} {ws : List (List UInt8)} {c : Cm} (h : orderW red ws = some c) : ∃ w, ws = [w, Lib.itoa c.acc, Lib.itoa c.market, sideW c.o.side, Lib.itoa c.o.qty, Lib.itoa c.o.price, howW c.how] ∧ c = ⟨3, c.acc, c.market, 0, ⟨0, 0, c.o.side, c.o.price, c.o.qty⟩, c.how, red⟩ ∧ (1 ≤ c.how ∧ c.how ≤ 4) ∧ (c.o.side = 1 ∨ c.o.side = -1) ∧ FitC c := by
  unfold orderW at h
  split at h
  · rename_i w a m s q p hh
    split at h
    · rename_i a' m' q' p' s' ha hm hq hp hs
      split at h
      · cases h
      · rename_i hne
        injection h with h
        subst h
        obtain ⟨e1, b1⟩ := numOf_some ha
        obtain ⟨e2, b2⟩ := numOf_some hm
        obtain ⟨e3, b3⟩ := numOf_some hq
        obtain ⟨e4, b4⟩ := numOf_some hp
        obtain ⟨e5, b5⟩ := sideOfW_some hs
        obtain ⟨e6, b6⟩ := howOf_ne hne
        refine ⟨w, ?_, rfl, e6, e5, ⟨b1, b2, i64_zero, b4, b3⟩⟩
        simp only
        rw [← e1, ← e2, ← e3, ← e4, b5, b6]
    · cases h
  · cases h
theorem two_read {k : Int} {ws : List (List UInt8)} {c : Cm} (h : twoW k ws = some c) : ∃ a n, ws = [Lib.itoa a, Lib.itoa n] ∧ I64 a ∧ I64 n ∧ c = if isMkt k then { zeroCm with kind := k, market := a, n := n } else { zeroCm with kind := k, acc := a, n := n } := by
  unfold twoW at h
  split at h
  · split at h
    · rename_i a n ha hn
      injection h with h
      obtain ⟨e1, b1⟩ := numOf_some ha
      obtain ⟨e2, b2⟩ := numOf_some hn
      exact ⟨_, _, by rw [← e1, ← e2], b1, b2, h.symm⟩
    · cases h
  · cases h
theorem fit_zero (k : Int) : FitC { zeroCm with kind := k } := ⟨i64_zero, i64_zero, i64_zero, i64_zero, i64_zero⟩
theorem place_print {c : Cm} {red : Bool} (e2 : c = ⟨3, c.acc, c.market, 0, ⟨0, 0, c.o.side, c.o.price, c.o.qty⟩, c.how, red⟩) (b1 : 1 ≤ c.how ∧ c.how ≤ 4) (b2 : c.o.side = 1 ∨ c.o.side = -1) :
    textErr c = 0 ∧ printWords c = wPlace :: ([Lib.itoa c.acc, Lib.itoa c.market, sideW c.o.side, Lib.itoa c.o.qty, Lib.itoa c.o.price, howW c.how] ++ if red then [wReduce] else []) := by
  have hk : c.kind = 3 := by rw [e2]
  have hr : c.reduce = red := by rw [e2]
  constructor
  · refine textErr_mk (by omega) (fun _ => ⟨b1, b2⟩) ?_
    unfold wantOf
    rw [if_neg (by rw [hk]; decide), if_neg (by rw [hk]; decide), if_pos hk]
    conv => lhs; rw [e2]
    show _ = (⟨c.kind, c.acc, c.market, 0, _, c.how, c.reduce⟩ : Cm)
    rw [hk, hr]
  · unfold printWords
    rw [hk, if_neg (by decide), if_neg (by decide), if_pos rfl, hr]
    rfl
/-- what is read is printed as it was. -/
theorem print_read {ws : List (List UInt8)} {c : Cm} (h : readWords ws = some c) : printWords c = ws ∧ textErr c = 0 ∧ FitC c := by
  unfold readWords at h
  split at h
  · cases h
  rename_i k r
  split at h
  · cases h
  rename_i hk0
  obtain ⟨hk, hkw⟩ := kindOf_ne hk0
  split at h
  · rename_i hk3
    have hkp : k = wPlace := by rw [← hkw, hk3]; decide
    split at h
    · rename_i h8
      obtain ⟨w, e1, e2, b1, b2, b3⟩ := order_read h
      obtain ⟨t1, t2⟩ := place_print e2 b1 b2
      refine ⟨?_, t1, b3⟩
      rw [t2, if_pos rfl]
      have hd : (k :: r).drop 7 = [wReduce] := by
        have := h8.1
        have h9 := h8.2
        apply List.ext_getElem?
        intro i
        rw [List.getElem?_drop]
        cases i with
        | zero => rw [Nat.add_zero, h9]; rfl
        | succ i => rw [List.getElem?_eq_none (by omega), List.getElem?_eq_none (by simp)]
      have hl : (k :: r) = (k :: r).take 7 ++ [wReduce] := by rw [← hd, List.take_append_drop]
      rw [hl, e1]
      have hw : w = k := by
        have := congrArg List.head? e1
        simpa using this.symm
      rw [hw, hkp]; rfl
    · obtain ⟨w, e1, e2, b1, b2, b3⟩ := order_read h
      obtain ⟨t1, t2⟩ := place_print e2 b1 b2
      refine ⟨?_, t1, b3⟩
      rw [t2, if_neg (by simp), List.append_nil, e1]
      have hw : w = k := by
        have := congrArg List.head? e1
        simpa using this.symm
      rw [hw, hkp]
  · rename_i hk3
    split at h
    · rename_i hk7
      split at h
      · rename_i hr
        injection h with h
        subst h hr
        refine ⟨?_, ?_, fit_zero 7⟩
        · rw [← hkw, hk7]; rfl
        · decide
      · cases h
    · rename_i hk7
      obtain ⟨a, n, e1, b1, b2, e2⟩ := two_read h
      by_cases hm : isMkt (kindOf k) = true
      · rw [if_pos hm] at e2
        have hm' := hm
        unfold isMkt at hm'
        rw [decide_eq_true_eq] at hm'
        have hkk : c.kind = kindOf k := by rw [e2]
        have hcc : isCash c.kind = false := by rw [hkk]; unfold isCash; exact decide_eq_false (by omega)
        have hmm : isMkt c.kind = true := by rw [hkk]; exact hm
        refine ⟨?_, ?_, ?_⟩
        · unfold printWords
          rw [hcc, hmm, if_neg (by simp), if_pos rfl, hkk, hkw, e1, e2]
        · refine textErr_mk (by omega) (fun h => by omega) ?_
          unfold wantOf
          rw [hcc, hmm, if_neg (by simp), if_pos rfl, e2]
        · rw [e2]; exact ⟨i64_zero, b1, b2, i64_zero, i64_zero⟩
      · rw [if_neg hm] at e2
        have hm' := hm
        unfold isMkt at hm'
        rw [decide_eq_true_eq] at hm'
        have hkk : c.kind = kindOf k := by rw [e2]
        have hcc : isCash c.kind = true := by rw [hkk]; unfold isCash; exact decide_eq_true (by omega)
        refine ⟨?_, ?_, ?_⟩
        · unfold printWords
          rw [hcc, if_pos rfl, hkk, hkw, e1, e2]
        · refine textErr_mk (by omega) (fun h => by omega) ?_
          unfold wantOf
          rw [hcc, if_pos rfl, e2]
        · rw [e2]; exact ⟨b1, i64_zero, b2, i64_zero, i64_zero⟩

/-! ### no blank, no line feed in a word -/
def Plain (w : List UInt8) : Prop := ((32 : UInt8) ∉ w ∧ (10 : UInt8) ∉ w) ∧ w.length ≤ 21
theorem plain_itoa {n : Int} (h : I64 n) : Plain (Lib.itoa n) := ⟨itoa_no, Lib.itoa_length_le n h.1 h.2⟩
theorem plain_kind (k : Int) : Plain (kindW k) := by
  unfold kindW
  repeat' split
  all_goals exact ⟨⟨by decide, by decide⟩, by decide⟩
theorem plain_how (k : Int) : Plain (howW k) := by
  unfold howW
  repeat' split
  all_goals exact ⟨⟨by decide, by decide⟩, by decide⟩
theorem plain_side (k : Int) : Plain (sideW k) := by
  unfold sideW
  split
  all_goals exact ⟨⟨by decide, by decide⟩, by decide⟩
theorem plain_words {c : Cm} (hf : FitC c) : ∀ w ∈ printWords c, Plain w := by
  intro w hw
  unfold printWords at hw
  rcases List.mem_cons.1 hw with hw | hw
  · rw [hw]; exact plain_kind _
  · split at hw
    · simp only [List.mem_cons, List.not_mem_nil, or_false] at hw
      rcases hw with rfl | rfl
      · exact plain_itoa hf.acc
      · exact plain_itoa hf.n
    · split at hw
      · simp only [List.mem_cons, List.not_mem_nil, or_false] at hw
        rcases hw with rfl | rfl
        · exact plain_itoa hf.market
        · exact plain_itoa hf.n
      · split at hw
        · rcases List.mem_append.1 hw with hw | hw
          · simp only [List.mem_cons, List.not_mem_nil, or_false] at hw
            rcases hw with rfl | rfl | rfl | rfl | rfl | rfl
            · exact plain_itoa hf.acc
            · exact plain_itoa hf.market
            · exact plain_side _
            · exact plain_itoa hf.qty
            · exact plain_itoa hf.price
            · exact plain_how _
          · split at hw
            · rw [List.mem_singleton.1 hw]; exact ⟨⟨by decide, by decide⟩, by decide⟩
            · cases hw
        · cases hw
theorem words_len (c : Cm) : (printWords c).length ≤ 8 := by
  unfold printWords
  repeat' split
  all_goals simp
theorem join_len {c : UInt8} {k : Nat} : ∀ {ws : List (List UInt8)}, (∀ w ∈ ws, w.length ≤ k) → (Lib.join ws [c]).length ≤ ws.length * (k + 1)
  | [], _ => by simp [Lib.join_nil]
  | [w], h => by rw [Lib.join_one]; have := h w List.mem_cons_self; simp; omega
  | w :: x :: ws, h => by
    have ih := join_len (c := c) (k := k) (ws := x :: ws) (fun y hy => h y (List.mem_cons_of_mem _ hy))
    have := h w List.mem_cons_self
    rw [join_cons2]
    simp only [List.length_append, List.length_cons, List.length_nil] at ih ⊢
    have e : (ws.length + 1 + 1) * (k + 1) = (ws.length + 1) * (k + 1) + (k + 1) := by rw [Nat.succ_mul]
    omega
theorem spl_print {c : Cm} (hf : FitC c) : spl 32 (Lib.join (printWords c) [32]) = printWords c :=
  spl_join 32 _ (by unfold printWords; simp) (fun w hw => (plain_words hf w hw).1.1)
/-- what is printed: read back; without a line feed; not long. -/
theorem back_print {c : Cm} (h : textErr c = 0) (hf : FitC c) : parseOf (Lib.join (printWords c) [32]) = (c, 0) ∧ (10 : UInt8) ∉ Lib.join (printWords c) [32] ∧ (Lib.join (printWords c) [32]).length ≤ 176 := by
  have hl : (Lib.join (printWords c) [32]).length ≤ 176 := by
    have h1 := join_len (c := 32) (k := 21) (fun w hw => (plain_words hf w hw).2)
    have h2 := words_len c
    have h3 := Nat.mul_le_mul_right 22 h2
    omega
  refine ⟨?_, ?_, hl⟩
  · unfold parseOf readOf
    rw [if_neg (by omega), spl_print hf, read_print h hf]
  · intro hm
    rcases mem_join hm with h1 | ⟨w, hw, h1⟩
    · simp at h1
    · exact (plain_words hf w hw).1.2 h1
theorem back_inj {c d : Cm} (hc : textErr c = 0) (hd : textErr d = 0) (fc : FitC c) (fd : FitC d) : Lib.join (printWords c) [32] = Lib.join (printWords d) [32] ↔ c = d := by
  constructor
  · intro h
    have h1 := (back_print hc fc).1
    rw [h, (back_print hd fd).1] at h1
    injection h1 with h1
    exact h1.symm
  · intro h; rw [h]
theorem back_read {s : List UInt8} {x : Cm} (h : parseOf s = (x, 0)) : textErr x = 0 ∧ FitC x ∧ Lib.join (printWords x) [32] = s := by
  unfold parseOf at h
  split at h
  · injection h with _ h; cases h
  unfold readOf at h
  split at h
  · rename_i c hc
    injection h with h _
    subst h
    obtain ⟨e, t, f⟩ := print_read hc
    exact ⟨t, f, by rw [e, join_spl]⟩
  · injection h with _ h; cases h
end Go.Proofs.YtockodmbhnlheaaDoor
