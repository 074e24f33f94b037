/-
  A region that draws its order of evaluation, by ONE relation on what has come up, the slots and the world: each operation is looked at once.
-/
import Derived.RegionTactic
namespace Go.Proofs.YtockodmbhnlheaaDoor
open Go

/-- slots D hold what g says. -/
def patch (a : Act) (D : List Nat) (g : Nat → Value) : Act := ⟨D.foldl (fun T d => T.setIfInBounds d (g d)) a.tmps, a.defers⟩
def upd (g : Nat → Value) (d : Option Tmp) (v : Value) : Nat → Value := fun t => if d = some t then v else g t
def updL (L : Nat → Bool) (i : Nat) : Nat → Bool := fun j => if j = i then true else L j
theorem fold_get (g : Nat → Value) (t : Nat) : ∀ (D : List Nat) (T : Array Value), (D.foldl (fun T d => T.setIfInBounds d (g d)) T)[t]? = if t ∈ D ∧ t < T.size then some (g t) else T[t]?
  | [], T => by simp
  | d :: D, T => by
    rw [List.foldl_cons, fold_get g t D]
    simp only [Array.size_setIfInBounds, List.mem_cons]
    by_cases h1 : t ∈ D ∧ t < T.size
    · rw [if_pos h1, if_pos ⟨.inr h1.1, h1.2⟩]
    · rw [if_neg h1]
      by_cases h2 : t = d
      · subst h2
        by_cases h3 : t < T.size
        · rw [if_pos ⟨.inl rfl, h3⟩, Array.getElem?_setIfInBounds_self_of_lt h3]
        · rw [if_neg (fun h => h3 h.2), Array.getElem?_eq_none (by simpa using h3), Array.getElem?_eq_none (by simpa using h3)]
      · rw [Array.getElem?_setIfInBounds_ne (Ne.symm h2), if_neg (fun h => h1 ⟨h.1.resolve_left h2, h.2⟩)]
theorem patch_put (a : Act) (D : List Nat) (g : Nat → Value) (d : Option Tmp) (v : Value) (hd : ∀ t, d = some t → t ∈ D) : patch a D (upd g d v) = (patch a D g).put d v := by
  have hs : ∀ (D : List Nat) (g : Nat → Value) (T : Array Value), (D.foldl (fun T d => T.setIfInBounds d (g d)) T).size = T.size := by
    intro D g
    induction D with
    | nil => intro T; rfl
    | cons d D ih => intro T; rw [List.foldl_cons, ih, Array.size_setIfInBounds]
  cases d with
  | none =>
    have : upd g none v = g := by funext t; simp [upd]
    rw [this]; rfl
  | some d =>
    unfold Act.put patch
    simp only [Act.mk.injEq, and_true]
    apply Array.ext_getElem?
    intro t
    rw [fold_get]
    by_cases ht : d = t
    · subst ht
      by_cases h3 : d < a.tmps.size
      · rw [if_pos ⟨hd d rfl, h3⟩, Array.getElem?_setIfInBounds_self_of_lt (by rw [hs]; exact h3)]; simp [upd]
      · rw [if_neg (fun h => h3 h.2), Array.getElem?_eq_none (by simpa using h3), Array.getElem?_eq_none (by rw [Array.size_setIfInBounds, hs]; simpa using h3)]
    · rw [Array.getElem?_setIfInBounds_ne ht, fold_get]
      simp [upd, ht]
theorem patch_id (a : Act) (D : List Nat) : patch a D (fun t => a.tmps.getD t undef) = a := by
  unfold patch
  obtain ⟨T, df⟩ := a
  simp only [Act.mk.injEq, and_true]
  apply Array.ext_getElem?
  intro t
  rw [fold_get]
  split
  · rename_i h; simp [h.2]
  · rfl
/-- how many have not come up. -/
def cntL (n : Nat) (L : Array Bool) : Nat := (List.range n).countP (fun i => !L.getD i true)
theorem countP_lt {p q : Nat → Bool} {i : Nat} : ∀ (l : List Nat), (∀ j, q j = true → p j = true) → i ∈ l → p i = true → q i = false → l.countP q < l.countP p
  | [], _, h, _, _ => by cases h
  | j :: l, hpq, h, hp, hq => by
    have hle : l.countP q ≤ l.countP p := List.countP_mono_left (fun x _ => hpq x)
    rw [List.countP_cons, List.countP_cons]
    by_cases hj : i = j
    · subst hj; rw [hp, hq]; simp; omega
    · have ih := countP_lt l hpq ((List.mem_cons.1 h).resolve_left hj) hp hq
      have := hpq j
      cases h1 : q j <;> cases h2 : p j <;> simp [h1, h2] at this ⊢ <;> omega
theorem cntL_set {n i : Nat} {L : Array Bool} (hi : i < n) (hL : L.size = n) (h : L.getD i true = false) : cntL n (L.setIfInBounds i true) < cntL n L := by
  refine countP_lt _ (fun j => ?_) (List.mem_range.2 hi) (by simp only [h]; rfl) ?_
  · by_cases hj : i = j
    · subst hj; simp [hL, hi]
    · simp [Array.getElem?_setIfInBounds_ne hj]
  · simp [hL, hi]

variable {P : Program} {ops : Array Oper} {Q : Exit → Act → World → Prop} {md : Region.Mode}

/-- each edge points back. -/
def acyc (md : Region.Mode) (ops : Array Oper) : Bool := (List.range ops.size).all fun i => match ops[i]? with | some o => o.after.all fun e => !Region.binds md e || decide (e.on < i) | none => true
/-- all results lie in D. -/
def dstIn (ops : Array Oper) (D : List Nat) : Bool := ops.all fun o => match o.dst with | some d => D.contains d | none => true
theorem ready_nil (hac : acyc md ops = true) {L : Array Bool} (hL : L.size = ops.size) (hr : Region.ready md ops L = []) : ∀ i, i < ops.size → L.getD i false = true := by
  intro i
  induction i using Nat.strongRecOn with
  | ind i ih =>
    intro hi
    rcases hb : L.getD i false with _ | _
    · exfalso
      have hin : i ∈ Region.ready md ops L := by
        rw [mem_ready]
        refine ⟨?_, ops[i], Array.getElem?_eq_getElem hi, ?_⟩
        · have : i < L.size := by omega
          simp [this] at hb ⊢; exact hb
        · intro e he hbd
          unfold acyc at hac
          rw [List.all_eq_true] at hac
          have h1 := hac i (List.mem_range.2 hi)
          rw [Array.getElem?_eq_getElem hi] at h1
          have h2 := Array.all_eq_true_iff_forall_mem.1 h1 e he
          rw [hbd] at h2
          have h3 : e.on < i := by simpa using h2
          exact ih _ h3 (by omega)
      rw [hr] at hin; cases hin
    · rfl

/-- what is to be shown of one operation. -/
def StepOK (P : Program) (md : Region.Mode) (ops : Array Oper) (Q : Exit → Act → World → Prop) (mk : (Nat → Value) → Act) (J : (Nat → Bool) → (Nat → Value) → World → Prop) (i : Nat) (o : Oper) : Prop :=
  ∀ L g w, J L g w → L i = false → (∀ e ∈ o.after, Region.binds md e = true → L e.on = true) → ∀ K : Act → World → Prop, (∀ a v w', a = (mk g).put o.dst v → J (updL L i) (upd g o.dst v) w' → K a w') →
    if Region.wanted o (yielded ops (mk g).tmps) = true then Oper.wp P o (mk g) w K Q else K ((mk g).put o.dst undef) w
theorem StepOK.plain {mk : (Nat → Value) → Act} {J : (Nat → Bool) → (Nat → Value) → World → Prop} {i : Nat} {o : Oper} (hg : o.guard = none)
    (h : ∀ L g w, J L g w → L i = false → (∀ e ∈ o.after, Region.binds md e = true → L e.on = true) → ∀ K : Act → World → Prop, (∀ a v w', a = (mk g).put o.dst v → J (updL L i) (upd g o.dst v) w' → K a w') → Oper.wp P o (mk g) w K Q) :
    StepOK P md ops Q mk J i o := fun L g w hJ hl hd K hK => by
  rw [if_pos (by unfold Region.wanted; rw [hg])]
  exact h L g w hJ hl hd K hK
def StepsOK (P : Program) (md : Region.Mode) (ops : Array Oper) (Q : Exit → Act → World → Prop) (mk : (Nat → Value) → Act) (J : (Nat → Bool) → (Nat → Value) → World → Prop) : Nat → List Oper → Prop
  | _, [] => True
  | i, o :: l => StepOK P md ops Q mk J i o ∧ StepsOK P md ops Q mk J (i + 1) l
theorem StepsOK.at {mk : (Nat → Value) → Act} {J : (Nat → Bool) → (Nat → Value) → World → Prop} : ∀ {l : List Oper} {k i : Nat} {o : Oper}, StepsOK P md ops Q mk J k l → l[i]? = some o → StepOK P md ops Q mk J (k + i) o
  | [], _, _, _, _, h => by simp at h
  | x :: l, k, 0, o, h, he => by simp at he; subst he; exact h.1
  | x :: l, k, i + 1, o, h, he => by
    have := StepsOK.at h.2 (i := i) (o := o) (by simpa using he)
    rwa [show k + 1 + i = k + (i + 1) by omega] at this
theorem wpAny_inv {D : List Nat} {a0 : Act} {mk : (Nat → Value) → Act} (hmk : ∀ g, patch a0 D g = mk g) {J : (Nat → Bool) → (Nat → Value) → World → Prop} (hac : acyc md ops = true) (hD : dstIn ops D = true)
    (hstep : StepsOK P md ops Q mk J 0 ops.toList)
    (hfin : ∀ L g w, (∀ i, i < ops.size → L i = true) → J L g w → Q .normal (mk g) w) :
    ∀ (fuel : Nat) (L : Array Bool) (g : Nat → Value) (w : World), L.size = ops.size → cntL ops.size L ≤ fuel → J (fun i => L.getD i false) g w → wpAny P md ops Q fuel L (mk g) w
  | 0, L, g, w, hL, hc, hJ => by
    have hr : Region.ready md ops L = [] := by
      rw [List.eq_nil_iff_forall_not_mem]
      intro i hi
      obtain ⟨h1, o, ho, _⟩ := mem_ready.1 hi
      have hi : i < ops.size := (Array.getElem?_eq_some_iff.1 ho).1
      have := cntL_set hi hL h1
      omega
    exact ⟨hr, hfin _ g w (ready_nil hac hL hr) hJ⟩
  | fuel + 1, L, g, w, hL, hc, hJ => by
    refine ⟨fun hr => hfin _ g w (ready_nil hac hL hr) hJ, fun i hi => ?_⟩
    obtain ⟨h1, o, ho, hd⟩ := mem_ready.1 hi
    have hi' : i < ops.size := (Array.getElem?_eq_some_iff.1 ho).1
    have hlt : i < L.size := by omega
    refine wpOp_step ho (fun K hK => ?_)
    have hs := hstep.at (i := i) (o := o) (by simpa using ho)
    rw [Nat.zero_add] at hs
    refine hs _ g w hJ (by simp [hlt] at h1 ⊢; exact h1) hd K (fun a v w' ha hJ' => ?_)
    subst ha
    have hin : ∀ t, o.dst = some t → t ∈ D := by
      intro t ht
      have := Array.all_eq_true_iff_forall_mem.1 hD o (Array.mem_of_getElem? ho)
      rw [ht] at this
      simpa using this
    rw [← hmk, ← patch_put _ _ _ _ _ hin, hmk]
    refine hK _ _ (wpAny_inv hmk hac hD hstep hfin fuel _ _ w' (by simpa using hL) ?_ ?_)
    · have := cntL_set hi' hL h1
      omega
    · have : (fun j => (L.setIfInBounds i true).getD j false) = updL (fun j => L.getD j false) i := by
        funext j
        unfold updL
        by_cases hj : i = j
        · subst hj; simp [hlt]
        · rw [getD_set_ne false hj, if_neg (Ne.symm hj)]
      rw [this]; exact hJ'
theorem cntL_false (n : Nat) : cntL n (Array.replicate n false) ≤ n := by
  unfold cntL
  exact Nat.le_trans List.countP_le_length (by simp)
/-- the region, by one relation. -/
theorem wp_region_inv' {id : Nat} {a0 : Act} {w : World} (D : List Nat) (J : (Nat → Bool) → (Nat → Value) → World → Prop) {mk : (Nat → Value) → Act} (hmk : ∀ g, patch a0 D g = mk g) (hm : P.follows .mixedOrders = true)
    (hac : acyc .any ops = true) (hD : dstIn ops D = true)
    (h0 : J (fun _ => false) (fun t => a0.tmps.getD t undef) w.drew)
    (hstep : StepsOK P .any ops Q mk J 0 ops.toList)
    (hfin : ∀ L g w, (∀ i, i < ops.size → L i = true) → J L g w → Q .normal (mk g) w) : (Code.region id ops true).wp P Q a0 w := by
  refine wp_region_any hm ?_
  have h1 := patch_id a0 D
  rw [hmk] at h1
  have h2 := wpAny_inv hmk hac hD hstep hfin ops.size (Array.replicate ops.size false) (fun t => a0.tmps.getD t undef) w.drew (by simp) (cntL_false _)
    (by have : (fun i => (Array.replicate ops.size false).getD i false) = fun _ => false := by { funext i; rw [Array.getD_eq_getD_getElem?, Array.getElem?_replicate]; split <;> rfl }
        rw [this]; exact h0)
  rw [h1] at h2
  exact h2

theorem wp_region_inv {l : List Oper} {id : Nat} {a0 : Act} {w : World} (D : List Nat) (J : (Nat → Bool) → (Nat → Value) → World → Prop) {mk : (Nat → Value) → Act} (hmk : ∀ g, patch a0 D g = mk g) (hm : P.follows .mixedOrders = true)
    (hac : acyc .any l.toArray = true) (hD : dstIn l.toArray D = true)
    (h0 : J (fun _ => false) (fun t => a0.tmps.getD t undef) w.drew)
    (hstep : StepsOK P .any l.toArray Q mk J 0 l)
    (hfin : ∀ L g w, (∀ i, i < l.length → L i = true) → J L g w → Q .normal (mk g) w) : (Code.region id l.toArray true).wp P Q a0 w :=
  wp_region_inv' D J hmk hm hac hD h0 hstep (by simpa using hfin)
theorem StepsOK.cons {mk : (Nat → Value) → Act} {J : (Nat → Bool) → (Nat → Value) → World → Prop} {i : Nat} {o : Oper} {l : List Oper} (h : StepOK P md ops Q mk J i o) (hl : StepsOK P md ops Q mk J (i + 1) l) : StepsOK P md ops Q mk J i (o :: l) := ⟨h, hl⟩
theorem StepsOK.nil {mk : (Nat → Value) → Act} {J : (Nat → Bool) → (Nat → Value) → World → Prop} {i : Nat} : StepsOK P md ops Q mk J i [] := trivial

/-- the usual relation: S of the world, a table (by the operation's number) of what slots hold once their operation has come up, and X beside. -/
structure RI (T : List (Option (Nat × Value))) (S : World → Prop) (X : (Nat → Bool) → (Nat → Value) → World → Prop) (L : Nat → Bool) (g : Nat → Value) (w : World) : Prop where
  s : S w
  t : ∀ i d v, T[i]? = some (some (d, v)) → L i = true → g d = v
  x : X L g w
/-- no other operation's row speaks of slot d. -/
def tOK (T : List (Option (Nat × Value))) (i : Nat) (d : Option Tmp) : Bool := T.zipIdx.all fun p => p.2 == i || match p.1 with | some q => !(d == some q.1) | none => true
theorem tOK_spec {T : List (Option (Nat × Value))} {i : Nat} {d : Option Tmp} (h : tOK T i d = true) {j e : Nat} {v : Value} (hj : T[j]? = some (some (e, v))) (hne : j ≠ i) : d ≠ some e := by
  have h1 := List.all_eq_true.1 h (some (e, v), j) (by rw [List.mk_mem_zipIdx_iff_getElem?]; exact hj)
  simpa [hne] using h1
theorem RI.stepV {T : List (Option (Nat × Value))} {S : World → Prop} {X : (Nat → Bool) → (Nat → Value) → World → Prop} {L : Nat → Bool} {g : Nat → Value} {w w' : World} (h : RI T S X L g w) {i d : Nat} {v v' : Value}
    (hT : T[i]? = some (some (d, v'))) (he : v = v') (ht : tOK T i (some d) = true) (hs : S w') (hx : X (updL L i) (upd g (some d) v) w') : RI T S X (updL L i) (upd g (some d) v) w' := by
  subst he
  refine ⟨hs, fun j e u hj hl => ?_, hx⟩
  by_cases hji : j = i
  · subst hji
    rw [hT] at hj
    injection hj with hj
    injection hj with hj
    injection hj with h1 h2
    subst h1; subst h2
    simp [upd]
  · have := tOK_spec ht hj hji
    rw [upd, if_neg this]
    refine h.t j e u hj ?_
    rwa [updL, if_neg hji] at hl
theorem RI.stepN {T : List (Option (Nat × Value))} {S : World → Prop} {X : (Nat → Bool) → (Nat → Value) → World → Prop} {L : Nat → Bool} {g : Nat → Value} {w w' : World} (h : RI T S X L g w) {i : Nat} {d : Option Tmp} {v : Value}
    (hT : T[i]? = some none) (ht : tOK T i d = true) (hs : S w') (hx : X (updL L i) (upd g d v) w') : RI T S X (updL L i) (upd g d v) w' := by
  refine ⟨hs, fun j e u hj hl => ?_, hx⟩
  by_cases hji : j = i
  · subst hji; rw [hT] at hj; injection hj with hj; cases hj
  · have := tOK_spec ht hj hji
    rw [upd, if_neg this]
    refine h.t j e u hj ?_
    rwa [updL, if_neg hji] at hl
theorem RI.val {T : List (Option (Nat × Value))} {S : World → Prop} {X : (Nat → Bool) → (Nat → Value) → World → Prop} {L : Nat → Bool} {g : Nat → Value} {w : World} (h : RI T S X L g w) (i : Nat) {d : Nat} {v : Value}
    (hT : T[i]? = some (some (d, v))) (hl : L i = true) : g d = v := h.t i d v hT hl
/-- what an operation waits for has come up. -/
theorem dep {md : Region.Mode} {o : Oper} {L : Nat → Bool} (hd : ∀ e ∈ o.after, Region.binds md e = true → L e.on = true) (j : Nat) (h : o.after.any (fun e => Region.binds md e && e.on == j) = true) : L j = true := by
  obtain ⟨e, he, hb⟩ := Array.any_eq_true'.1 h
  simp only [Bool.and_eq_true, beq_iff_eq] at hb
  have := hd e he hb.1
  rwa [hb.2] at this
/-- slot s is as it was till operation j comes up (j reads it; who writes it waits for j). -/
def Was (j s : Nat) (v : Value) (L : Nat → Bool) (g : Nat → Value) : Prop := L j = false → g s = v
theorem Was.keep {j s : Nat} {v u : Value} {L : Nat → Bool} {g : Nat → Value} (h : Was j s v L g) {i : Nat} {d : Option Tmp} (hd : d ≠ some s) : Was j s v (updL L i) (upd g d u) := fun hl => by
  unfold upd; rw [if_neg hd]
  refine h ?_
  unfold updL at hl; split at hl <;> simp_all
theorem Was.over {j s : Nat} {v u : Value} {L : Nat → Bool} {g : Nat → Value} {i : Nat} {d : Option Tmp} (hd : L j = true) : Was j s v (updL L i) (upd g d u) := fun hl => by
  unfold updL at hl; split at hl <;> simp_all
theorem updL_of {L : Nat → Bool} {i j : Nat} (h : L j = true) : updL L i j = true := by unfold updL; split <;> simp_all
theorem updL_ne {L : Nat → Bool} {i j : Nat} (h : j ≠ i) : updL L i j = L j := by unfold updL; rw [if_neg h]
theorem upd_ne {g : Nat → Value} {d : Option Tmp} {v : Value} {t : Nat} (h : d ≠ some t) : upd g d v t = g t := by unfold upd; rw [if_neg h]
theorem upd_self {g : Nat → Value} {d : Nat} {v : Value} : upd g (some d) v d = v := by unfold upd; rw [if_pos rfl]
end Go.Proofs.YtockodmbhnlheaaDoor
