/-
  PLAIN LEAN, no program in sight: chapter 9: commands kept line by line.
-/
import Derived.Test.YtockodmbhnlheaaDoorTextLaws
namespace Go.Proofs.YtockodmbhnlheaaDoor

/-! ### whole lines -/
theorem spl_glue (c : UInt8) : ∀ A : List UInt8, ∃ ini X, spl c A = ini ++ [X] ∧ c ∉ X ∧ ∀ t h r, spl c t = h :: r → spl c (A ++ t) = ini ++ (X ++ h) :: r
  | [] => ⟨[], [], rfl, by simp, fun t h r e => by simpa using e⟩
  | b :: A => by
    obtain ⟨ini, X, h1, h2, h3⟩ := spl_glue c A
    by_cases hb : b = c
    · subst hb
      refine ⟨[] :: ini, X, ?_, h2, ?_⟩
      · unfold spl; rw [if_pos rfl, h1]; rfl
      · intro t h r e
        show spl b (b :: (A ++ t)) = _
        conv => lhs; unfold spl
        rw [if_pos rfl, h3 t h r e]; rfl
    · cases ini with
      | nil =>
        refine ⟨[], b :: X, ?_, ?_, ?_⟩
        · unfold spl; rw [if_neg hb, h1]; rfl
        · simp only [List.mem_cons, not_or]; exact ⟨fun e => hb e.symm, h2⟩
        · intro t h r e
          show spl c (b :: (A ++ t)) = _
          conv => lhs; unfold spl
          rw [if_neg hb, h3 t h r e]; rfl
      | cons i is =>
        refine ⟨(b :: i) :: is, X, ?_, h2, ?_⟩
        · unfold spl; rw [if_neg hb, h1]; rfl
        · intro t h r e
          show spl c (b :: (A ++ t)) = _
          conv => lhs; unfold spl
          rw [if_neg hb, h3 t h r e]; rfl
/-- what is cut at the first one. -/
theorem spl_cut (c : UInt8) : ∀ s : List UInt8, (c ∉ s ∧ spl c s = [s]) ∨ ∃ p r, s = p ++ c :: r ∧ c ∉ p ∧ spl c s = p :: spl c r
  | [] => .inl ⟨by simp, rfl⟩
  | b :: s => by
    by_cases hb : b = c
    · subst hb
      exact .inr ⟨[], s, rfl, by simp, spl_app b s [] (by simp)⟩
    · rcases spl_cut c s with ⟨h1, h2⟩ | ⟨p, r, h1, h2, h3⟩
      · refine .inl ⟨?_, spl_one c _ ?_⟩ <;> (simp only [List.mem_cons, not_or]; exact ⟨fun e => hb e.symm, h1⟩)
      · have hp : c ∉ b :: p := by simp only [List.mem_cons, not_or]; exact ⟨fun e => hb e.symm, h2⟩
        refine .inr ⟨b :: p, r, by rw [h1]; rfl, hp, ?_⟩
        rw [show b :: s = (b :: p) ++ c :: r by rw [h1]; rfl]
        exact spl_app c r _ hp

/-- whole lines, read; behind those that were read ahead of them. -/
def runP : List (List UInt8) → List Cm → List Cm × Int
  | [], l => (l, 0)
  | p :: r, l => if (parseOf p).2 ≠ 0 then ([], (parseOf p).2) else if 60 < l.length + 1 then ([], 2) else runP r (l ++ [(parseOf p).1])
/-- the pieces of a text: the last one is what has no end. -/
def cmdsP : List (List UInt8) → List Cm → List Cm × Int
  | [], l => (l, 0)
  | [p], l => if p = [] then (l, 0) else ([], 13)
  | p :: q :: r, l => if (parseOf p).2 ≠ 0 then ([], (parseOf p).2) else if 60 < l.length + 1 then ([], 2) else cmdsP (q :: r) (l ++ [(parseOf p).1])
def cmdsOf (s : List UInt8) : List Cm × Int := cmdsP (spl 10 s) []
def diskErr (s w : List UInt8) : Int := if 20000 < s.length ∨ 20000 - (s.length : Int) < w.length then 2 else (cmdsOf s).2
structure Dsk where
  safe : List UInt8
  wait : List UInt8
def noDsk : Dsk := ⟨[], []⟩
def dErr (d : Dsk) : Int := diskErr d.safe d.wait
def putD (d : Dsk) (c : Cm) : Dsk × Int :=
  if dErr d ≠ 0 then (noDsk, dErr d) else if (printOf c).2 ≠ 0 then (noDsk, (printOf c).2)
  else if 20000 < d.safe.length + d.wait.length + (printOf c).1.length + 1 then (noDsk, 7) else (⟨d.safe, d.wait ++ (printOf c).1 ++ [10]⟩, 0)
def syncD (d : Dsk) : Dsk × Int :=
  if dErr d ≠ 0 then (noDsk, dErr d) else if dErr ⟨d.safe ++ d.wait, []⟩ ≠ 0 then (noDsk, dErr ⟨d.safe ++ d.wait, []⟩) else (⟨d.safe ++ d.wait, []⟩, 0)
def crashD (d : Dsk) (n : Int) : Dsk × Int :=
  if dErr d ≠ 0 then (noDsk, dErr d) else if n < 0 ∨ (d.wait.length : Int) < n then (noDsk, 3) else (⟨d.safe, d.wait.take n.toNat⟩, 0)
/-- lines that wait, up to one that is none. -/
def recP : List (List UInt8) → List Cm → List UInt8 → List Cm × List UInt8
  | [], l, s => (l, s)
  | [_], l, s => (l, s)
  | p :: q :: r, l, s => if l.length < 60 ∧ (parseOf p).2 = 0 then recP (q :: r) (l ++ [(parseOf p).1]) (s ++ p ++ [10]) else (l, s)
def recoverD (d : Dsk) : Dsk × List Cm × Int :=
  if dErr d ≠ 0 then (noDsk, [], dErr d) else (⟨(recP (spl 10 d.wait) (cmdsOf d.safe).1 d.safe).2, []⟩, (recP (spl 10 d.wait) (cmdsOf d.safe).1 d.safe).1, 0)

theorem runP_cons (p : List UInt8) (r : List (List UInt8)) (l : List Cm) : runP (p :: r) l = if (parseOf p).2 ≠ 0 then ([], (parseOf p).2) else if 60 < l.length + 1 then ([], 2) else runP r (l ++ [(parseOf p).1]) := rfl
theorem cmdsP_cons (p q : List UInt8) (r : List (List UInt8)) (l : List Cm) : cmdsP (p :: q :: r) l = if (parseOf p).2 ≠ 0 then ([], (parseOf p).2) else if 60 < l.length + 1 then ([], 2) else cmdsP (q :: r) (l ++ [(parseOf p).1]) := rfl
theorem parse_errs (s : List UInt8) : (parseOf s).2 = 0 ∨ (parseOf s).2 = 1 ∨ (parseOf s).2 = 2 := by
  unfold parseOf readOf
  split
  · simp
  · split <;> simp
theorem cmdsP_errs : ∀ ps l, (cmdsP ps l).2 = 0 ∨ (cmdsP ps l).2 = 1 ∨ (cmdsP ps l).2 = 2 ∨ (cmdsP ps l).2 = 13
  | [], _ => .inl rfl
  | [p], _ => by unfold cmdsP; split <;> simp
  | p :: q :: r, l => by
    unfold cmdsP
    split
    · rcases parse_errs p with h | h | h <;> simp [h]
    · split
      · simp
      · exact cmdsP_errs _ _
theorem cmdsP_app : ∀ (ps qs : List (List UInt8)) (l : List Cm), qs ≠ [] → cmdsP (ps ++ qs) l = if (runP ps l).2 ≠ 0 then ([], (runP ps l).2) else cmdsP qs (runP ps l).1
  | [], qs, l, _ => by simp [runP]
  | p :: ps, qs, l, h => by
    obtain ⟨q, r, e⟩ : ∃ q r, ps ++ qs = q :: r := by
      cases hh : ps ++ qs with
      | nil => exact absurd (List.append_eq_nil_iff.1 hh).2 h
      | cons a b => exact ⟨a, b, rfl⟩
    have ih := cmdsP_app ps qs (l ++ [(parseOf p).1]) h
    rw [e] at ih
    rw [List.cons_append, e, cmdsP_cons, runP_cons]
    by_cases h1 : (parseOf p).2 ≠ 0
    · rw [if_pos h1, if_pos h1, if_pos h1]
    · rw [if_neg h1, if_neg h1]
      by_cases h2 : 60 < l.length + 1
      · rw [if_pos h2, if_pos h2]; rfl
      · rw [if_neg h2, if_neg h2]
        exact ih
theorem runP_err : ∀ ps l, (runP ps l).2 ≠ 0 → (runP ps l).1 = []
  | [], _, h => absurd rfl h
  | p :: r, l, h => by
    unfold runP at h ⊢
    split
    · rfl
    · rename_i h1
      rw [if_neg h1] at h
      split
      · rfl
      · rename_i h2
        rw [if_neg h2] at h
        exact runP_err _ _ h
theorem cmdsP_whole (ps : List (List UInt8)) (l : List Cm) : cmdsP (ps ++ [[]]) l = runP ps l := by
  rw [cmdsP_app ps [[]] l (by simp)]
  split
  · rename_i h
    rw [← runP_err ps l h]
  · rename_i h
    have h0 : (runP ps l).2 = 0 := by omega
    unfold cmdsP
    rw [if_pos rfl, ← h0]
theorem runP_app : ∀ (ps qs : List (List UInt8)) (l : List Cm), runP (ps ++ qs) l = if (runP ps l).2 ≠ 0 then runP ps l else runP qs (runP ps l).1
  | [], qs, l => by simp [runP]
  | p :: ps, qs, l => by
    have ih := runP_app ps qs (l ++ [(parseOf p).1])
    rw [List.cons_append, runP_cons, runP_cons]
    by_cases h1 : (parseOf p).2 ≠ 0
    · rw [if_pos h1, if_pos h1, if_pos h1]
    · rw [if_neg h1, if_neg h1]
      by_cases h2 : 60 < l.length + 1
      · rw [if_pos h2, if_pos h2]; rfl
      · rw [if_neg h2, if_neg h2]
        exact ih
theorem runP_one {p : List UInt8} {c : Cm} (l : List Cm) (h : parseOf p = (c, 0)) (hl : l.length < 60) : runP [p] l = (l ++ [c], 0) := by
  unfold runP
  rw [h, if_neg (by simp), if_neg (by omega)]; rfl
/-- a line that is read, if all are. -/
theorem runP_last {ps : List (List UInt8)} {p : List UInt8} {l : List Cm} (h : (runP (ps ++ [p]) l).2 = 0) : (runP ps l).2 = 0 ∧ (parseOf p).2 = 0 ∧ (runP ps l).1.length < 60 ∧ (runP (ps ++ [p]) l).1 = (runP ps l).1 ++ [(parseOf p).1] := by
  rw [runP_app] at h ⊢
  by_cases h1 : (runP ps l).2 ≠ 0
  · rw [if_pos h1] at h; exact absurd h h1
  · rw [if_neg h1, runP_cons] at h ⊢
    by_cases h2 : (parseOf p).2 ≠ 0
    · rw [if_pos h2] at h; exact absurd h h2
    · rw [if_neg h2] at h ⊢
      by_cases h3 : 60 < (runP ps l).1.length + 1
      · rw [if_pos h3] at h; cases h
      · rw [if_neg h3]
        exact ⟨by omega, by omega, by omega, rfl⟩

/-! ### a torn line ahead of a command's text -/
theorem kind_suffix : ∀ j : Fin 7, ∀ k : Fin 7, kindW ((j : Nat) + 1 : Int) <:+ kindW ((k : Nat) + 1 : Int) → j = k := by decide
theorem side_suffix (s : Int) : ∀ j : Fin 7, ¬ kindW ((j : Nat) + 1 : Int) <:+ sideW s := by
  unfold sideW
  split <;> decide
theorem how_suffix (h : Int) : ∀ j : Fin 7, ¬ kindW ((j : Nat) + 1 : Int) <:+ howW h := by
  unfold howW
  repeat' split
  all_goals decide
theorem reduce_suffix : ∀ j : Fin 7, ¬ kindW ((j : Nat) + 1 : Int) <:+ wReduce := by decide
theorem kind_big : ∀ j : Fin 7, ∃ b ∈ kindW ((j : Nat) + 1 : Int), 97 ≤ b.toNat := by decide
theorem itoa_suffix (n : Int) (j : Fin 7) : ¬ kindW ((j : Nat) + 1 : Int) <:+ Lib.itoa n := by
  rintro ⟨t, h⟩
  obtain ⟨b, hb, h9⟩ := kind_big j
  have := itoa_mem (n := n) (b := b) (by rw [← h]; exact List.mem_append.2 (.inr hb))
  omega
/-- the words behind the first one. -/
theorem tail_suffix (c : Cm) (j : Fin 7) : ∀ w ∈ (printWords c).tail, ¬ kindW ((j : Nat) + 1 : Int) <:+ w := by
  intro w hw
  unfold printWords at hw
  rw [List.tail_cons] at hw
  split at hw
  · simp only [List.mem_cons, List.not_mem_nil, or_false] at hw
    rcases hw with rfl | rfl <;> exact itoa_suffix _ j
  · split at hw
    · simp only [List.mem_cons, List.not_mem_nil, or_false] at hw
      rcases hw with rfl | rfl <;> exact itoa_suffix _ j
    · split at hw
      · rcases List.mem_append.1 hw with hw | hw
        · simp only [List.mem_cons, List.not_mem_nil, or_false] at hw
          rcases hw with rfl | rfl | rfl | rfl | rfl | rfl
          · exact itoa_suffix _ j
          · exact itoa_suffix _ j
          · exact side_suffix _ j
          · exact itoa_suffix _ j
          · exact itoa_suffix _ j
          · exact how_suffix _ j
        · split at hw
          · rw [List.mem_singleton.1 hw]; exact reduce_suffix j
          · cases hw
      · cases hw
theorem fin_kind {k : Int} (h : 1 ≤ k ∧ k ≤ 7) : ∃ j : Fin 7, k = ((j : Nat) + 1 : Int) := ⟨⟨(k - 1).toNat, by omega⟩, by simp; omega⟩
/-- what is torn ahead of a command's text makes it none. -/
theorem torn_none {X : List UInt8} {c : Cm} (hc : textErr c = 0) (hf : FitC c) (h : (parseOf (X ++ Lib.join (printWords c) [32])).2 = 0) : X = [] := by
  obtain ⟨x, hx⟩ : ∃ x, parseOf (X ++ Lib.join (printWords c) [32]) = (x, 0) := ⟨_, Prod.ext rfl h⟩
  obtain ⟨hxe, hxf, hxt⟩ := back_read hx
  obtain ⟨ini, Y, h1, h2, h3⟩ := spl_glue 32 X
  have hw : ∃ rest, printWords c = kindW c.kind :: rest := ⟨_, rfl⟩
  obtain ⟨rest, hr⟩ := hw
  have hs := h3 (Lib.join (printWords c) [32]) (kindW c.kind) rest (by rw [spl_print hf, hr])
  rw [← hxt, spl_print hxf] at hs
  obtain ⟨j, hj⟩ := fin_kind (textErr_ok hc).1
  obtain ⟨k, hk⟩ := fin_kind (textErr_ok hxe).1
  cases ini with
  | cons i is =>
    exfalso
    refine tail_suffix x j (Y ++ kindW c.kind) (by rw [hs]; simp) ?_
    rw [← hj]
    exact List.suffix_append _ _
  | nil =>
    have hY : kindW x.kind = Y ++ kindW c.kind := by
      have : ∃ rest, printWords x = kindW x.kind :: rest := ⟨_, rfl⟩
      obtain ⟨r2, h5⟩ := this
      rw [h5] at hs
      exact (List.cons.injEq _ _ _ _ ▸ hs).1
    have hjk : j = k := kind_suffix j k (by rw [← hj, ← hk, hY]; exact List.suffix_append _ _)
    have hkk : x.kind = c.kind := by rw [hj, hk, hjk]
    have hY0 : Y = [] := by
      have := congrArg List.length hY
      rw [hkk, List.length_append] at this
      exact List.eq_nil_of_length_eq_zero (by omega)
    have := join_spl 32 X
    rw [h1, hY0] at this
    simpa [Lib.join_one] using this.symm

theorem print_ok {c : Cm} (h : (printOf c).2 = 0) : textErr c = 0 ∧ (printOf c).1 = Lib.join (printWords c) [32] := by
  unfold printOf at h ⊢
  by_cases h0 : textErr c ≠ 0
  · rw [if_pos h0] at h; exact absurd h h0
  · rw [if_neg h0]; exact ⟨by omega, rfl⟩
/-- commands of what ends in whole lines. -/
theorem cmds_end (A t : List UInt8) (ht : (10 : UInt8) ∉ t) : ∃ ini X, spl 10 A = ini ++ [X] ∧ cmdsOf (A ++ t ++ [10]) = runP (ini ++ [X ++ t]) [] ∧
    ∀ u, (10 : UInt8) ∉ u → cmdsOf (A ++ t ++ [10] ++ u ++ [10]) = runP (ini ++ [X ++ t] ++ [u]) [] := by
  obtain ⟨ini, X, h1, -, h3⟩ := spl_glue 10 A
  refine ⟨ini, X, h1, ?_, ?_⟩
  · have := h3 (t ++ [10]) t [[]] (by rw [spl_app 10 [] t ht]; rfl)
    unfold cmdsOf
    rw [show A ++ t ++ [10] = A ++ (t ++ [10]) by simp, this, show ini ++ (X ++ t) :: [[]] = (ini ++ [X ++ t]) ++ [[]] by simp, cmdsP_whole]
  · intro u hu
    have := h3 (t ++ 10 :: (u ++ [10])) t [u, []] (by rw [spl_app 10 _ t ht, spl_app 10 [] u hu]; rfl)
    unfold cmdsOf
    rw [show A ++ t ++ [10] ++ u ++ [10] = A ++ (t ++ 10 :: (u ++ [10])) by simp, this, show ini ++ (X ++ t) :: [u, []] = (ini ++ [X ++ t] ++ [u]) ++ [[]] by simp, cmdsP_whole]

def sameDsk (a b : Dsk) : Bool := decide (a.safe = b.safe ∧ a.wait = b.wait)
theorem putD_ok {d : Dsk} {c : Cm} (h : (putD d c).2 = 0) : dErr d = 0 ∧ (printOf c).2 = 0 ∧ d.safe.length + d.wait.length + (printOf c).1.length + 1 ≤ 20000 ∧ (putD d c).1 = ⟨d.safe, d.wait ++ (printOf c).1 ++ [10]⟩ := by
  unfold putD at h ⊢
  by_cases h0 : dErr d ≠ 0
  · rw [if_pos h0] at h; exact absurd h h0
  rw [if_neg h0] at h ⊢
  by_cases h1 : (printOf c).2 ≠ 0
  · rw [if_pos h1] at h; exact absurd h h1
  rw [if_neg h1] at h ⊢
  by_cases h2 : 20000 < d.safe.length + d.wait.length + (printOf c).1.length + 1
  · rw [if_pos h2] at h; cases h
  rw [if_neg h2]
  exact ⟨by omega, by omega, by omega, rfl⟩
theorem putD_mk {d : Dsk} {c : Cm} (h0 : dErr d = 0) (h1 : (printOf c).2 = 0) (h2 : d.safe.length + d.wait.length + (printOf c).1.length + 1 ≤ 20000) : putD d c = (⟨d.safe, d.wait ++ (printOf c).1 ++ [10]⟩, 0) := by
  unfold putD
  rw [if_neg (by omega), if_neg (by omega), if_neg (by omega)]
theorem syncD_mk {d : Dsk} (h0 : dErr d = 0) (h1 : dErr ⟨d.safe ++ d.wait, []⟩ = 0) : syncD d = (⟨d.safe ++ d.wait, []⟩, 0) := by
  unfold syncD
  rw [if_neg (by omega), if_neg (by omega)]
theorem dErr_ok {d : Dsk} : dErr d = 0 ↔ d.safe.length + d.wait.length ≤ 20000 ∧ (cmdsOf d.safe).2 = 0 := by
  unfold dErr diskErr
  split
  · constructor
    · intro h; cases h
    · intro h; omega
  · constructor
    · intro h; exact ⟨by omega, h⟩
    · intro h; exact h.2
theorem dErr_errs (d : Dsk) : dErr d = 0 ∨ dErr d = 1 ∨ dErr d = 2 ∨ dErr d = 13 := by
  unfold dErr diskErr
  split
  · simp
  · exact cmdsP_errs _ _
/-- JournalParts, in plain words. -/
theorem parts_plain {d : Dsk} {c b : Cm} (fc : FitC c) (fb : FitC b) (hx : (putD d c).2 = 0) (hy : (putD (putD d c).1 b).2 = 0) :
    ((syncD (putD (putD d c).1 b).1).2 ≠ 0 → (syncD (putD (putD d c).1 b).1).2 = 2 ∨ (syncD (putD (putD d c).1 b).1).2 = 13 ∨ (syncD (putD (putD d c).1 b).1).2 = 1) ∧
    ((syncD (putD (putD d c).1 b).1).2 = 0 → ∃ S L, syncD (putD (putD d c).1 b).1 = (⟨S, []⟩, 0) ∧ (syncD (putD d c).1).2 = 0 ∧ (putD (syncD (putD d c).1).1 b).2 = 0 ∧ syncD (putD (syncD (putD d c).1).1 b).1 = (⟨S, []⟩, 0) ∧
      crashD ⟨S, []⟩ 0 = (⟨S, []⟩, 0) ∧ recoverD ⟨S, []⟩ = (⟨S, []⟩, L ++ [c, b], 0)) := by
  obtain ⟨x0, x1, x2, ex⟩ := putD_ok hx
  rw [ex] at hy ⊢
  obtain ⟨y0, y1, y2, ey⟩ := putD_ok hy
  rw [ey]
  obtain ⟨tc, hc⟩ := print_ok x1
  obtain ⟨tb, hb⟩ := print_ok y1
  dsimp only at y0 y2 ⊢
  have pc := back_print tc fc
  have pb := back_print tb fb
  rw [← hc] at pc
  rw [← hb] at pb
  generalize ep : (printOf c).1 = t at *
  generalize eq : (printOf b).1 = u at *
  simp only [List.length_append, List.length_cons, List.length_nil] at y2
  have dy : dErr ⟨d.safe, d.wait ++ t ++ [10] ++ u ++ [10]⟩ = 0 := by
    rw [dErr_ok] at y0 ⊢
    exact ⟨by simp only [List.length_append, List.length_cons, List.length_nil]; omega, y0.2⟩
  obtain ⟨ini, X, h1, h2, h3⟩ := cmds_end (d.safe ++ d.wait) t pc.2.1
  replace h3 := h3 u pb.2.1
  have es : d.safe ++ (d.wait ++ t ++ [10] ++ u ++ [10]) = d.safe ++ d.wait ++ t ++ [10] ++ u ++ [10] := by simp
  have es2 : d.safe ++ (d.wait ++ t ++ [10]) = d.safe ++ d.wait ++ t ++ [10] := by simp
  constructor
  · intro h
    unfold syncD at h ⊢
    rw [if_neg (by omega)] at h ⊢
    split
    · rename_i h5
      rcases dErr_errs ⟨d.safe ++ (d.wait ++ t ++ [10] ++ u ++ [10]), []⟩ with h6 | h6 | h6 | h6
      · exact absurd h6 h5
      · exact .inr (.inr h6)
      · exact .inl h6
      · exact .inr (.inl h6)
    · rename_i h5
      rw [if_neg h5] at h
      exact absurd rfl h
  · intro h
    have d2 : dErr ⟨d.safe ++ (d.wait ++ t ++ [10] ++ u ++ [10]), []⟩ = 0 := by
      unfold syncD at h
      rw [if_neg (by omega)] at h
      by_cases h5 : dErr ⟨d.safe ++ (d.wait ++ t ++ [10] ++ u ++ [10]), []⟩ = 0
      · exact h5
      · rw [if_pos h5] at h; exact h
    have hl := dErr_ok.1 d2
    dsimp only at hl
    rw [es, h3] at hl
    obtain ⟨g1, g2, g3, g4⟩ := runP_last hl.2
    obtain ⟨k1, k2, k3, k4⟩ := runP_last g1
    have hX : X = [] := torn_none tc fc (by rw [← hc]; exact k2)
    subst hX
    rw [List.nil_append] at *
    have S0 : dErr ⟨d.safe ++ (d.wait ++ t ++ [10]), []⟩ = 0 := by
      rw [dErr_ok]
      dsimp only
      rw [es2, h2]
      exact ⟨by simp only [List.length_append, List.length_cons, List.length_nil]; omega, g1⟩
    have q1 : syncD ⟨d.safe, d.wait ++ t ++ [10]⟩ = (⟨d.safe ++ (d.wait ++ t ++ [10]), []⟩, 0) := syncD_mk y0 S0
    have q2 : putD ⟨d.safe ++ (d.wait ++ t ++ [10]), []⟩ b = (⟨d.safe ++ (d.wait ++ t ++ [10]), u ++ [10]⟩, 0) := by
      have := putD_mk (d := ⟨d.safe ++ (d.wait ++ t ++ [10]), []⟩) (c := b) S0 y1 (by rw [eq]; simp only [List.length_append, List.length_cons, List.length_nil]; omega)
      rw [this, eq]; rfl
    have es3 : d.safe ++ (d.wait ++ t ++ [10]) ++ (u ++ [10]) = d.safe ++ (d.wait ++ t ++ [10] ++ u ++ [10]) := by simp
    have q3 : syncD ⟨d.safe ++ (d.wait ++ t ++ [10]), u ++ [10]⟩ = (⟨d.safe ++ (d.wait ++ t ++ [10] ++ u ++ [10]), []⟩, 0) := by
      rw [syncD_mk (d := ⟨d.safe ++ (d.wait ++ t ++ [10]), u ++ [10]⟩) ?_ (by dsimp only; rw [es3]; exact d2)]
      · dsimp only; rw [es3]
      · rw [dErr_ok] at S0 ⊢
        exact ⟨by simp only [List.length_append, List.length_cons, List.length_nil]; omega, S0.2⟩
    refine ⟨d.safe ++ (d.wait ++ t ++ [10] ++ u ++ [10]), (runP ini []).1, syncD_mk dy d2, by rw [q1], by rw [q1]; rw [q2], by rw [q1]; rw [q2]; exact q3, ?_, ?_⟩
    · unfold crashD
      rw [if_neg (by omega), if_neg (by simp)]; rfl
    · unfold recoverD
      rw [if_neg (by omega)]
      dsimp only
      rw [es, h3, g4, k4, pc.1, pb.1]
      simp [spl, recP]
end Go.Proofs.YtockodmbhnlheaaDoor
