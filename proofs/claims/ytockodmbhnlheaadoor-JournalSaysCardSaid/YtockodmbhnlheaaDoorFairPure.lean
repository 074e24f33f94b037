/-
  PLAIN LEAN, no program in sight: the law MatchFair: the fills, played again one by one.
-/
import Derived.Test.YtockodmbhnlheaaDoorMatchPure
namespace Go.Proofs.YtockodmbhnlheaaDoor

/-- what is known of Come where it answers without an error. -/
theorem come_ok {b x : Bk} {o : Od} {how left : Int} {l : List Fl} (h : comeOf b o how = (x, l, left, 0)) :
    BookOk b ∧ ordErr o = 0 ∧ hasB b o.id = false ∧ (1 ≤ how ∧ how ≤ 4) ∧
    ∃ L rem, takeL o o.qty (otherOf b o.side) = (L, l, rem, false) ∧ (how = 4 → l = []) ∧ (how = 3 → rem = 0) ∧
      ((rem = 0 ∨ how = 2) ∧ x = setOther b o.side L ∧ left = rem ∨ 0 < rem ∧ (how ≠ 2) ∧ (how ≠ 3) ∧ left = 0 ∧ restOf (setOther b o.side L) { o with qty := rem } = (x, 0)) := by
  unfold comeOf at h
  split at h
  · rename_i h1; injection h with _ h; injection h with _ h; injection h with _ h; exact absurd h h1
  rename_i h1
  have hb := bookErr_ok.1 (show bookErr b = 0 by omega)
  split at h
  · injection h with _ h; injection h with _ h; injection h with _ h; omega
  rename_i h2
  split at h
  · injection h with _ h; injection h with _ h; injection h with _ h; omega
  rename_i h3
  split at h
  · rename_i h4; injection h with _ h; injection h with _ h; injection h with _ h; exact absurd h h4
  rename_i h4
  have ho : ordErr o = 0 := by
    by_cases ho : ordErr o = 0
    · exact ho
    · unfold takeOf at h4
      rw [if_neg h1, if_pos ho] at h4
      simp only at h4
      exact absurd ho (by omega)
  obtain ⟨L, fl, rem, met, ht⟩ : ∃ L fl rem met, takeL o o.qty (otherOf b o.side) = (L, fl, rem, met) := ⟨_, _, _, _, rfl⟩
  have hto : takeOf b o = (setOther b o.side L, fl, rem, met, 0) := by
    unfold takeOf
    rw [if_neg h1, if_neg (by rw [ho]; simp), ht]
  rw [hto] at h
  simp only at h
  have hso := other_of hb o.side (ordErr_ok.1 ho).2.2.1
  have hq : ∀ x ∈ otherOf b o.side, 1 ≤ x.qty := fun x hx => (ordErr_ok.1 (hso.ok x hx)).2.2.2.2.1
  have hrem := takeL_left (o := o) (left := o.qty) hq (by have := (ordErr_ok.1 ho).2.2.2.2; omega)
  rw [ht] at hrem
  simp only at hrem
  split at h
  · injection h with _ h; injection h with _ h; injection h with _ h; omega
  rename_i h5
  split at h
  · injection h with _ h; injection h with _ h; injection h with _ h; omega
  rename_i h6
  have hmet : met = false := by simpa using h6
  split at h
  · injection h with _ h; injection h with _ h; injection h with _ h; omega
  rename_i h7
  have hl4 : fl ≠ [] → how ≠ 4 := fun hf h4 => h5 ⟨h4, .inl hf⟩
  refine ⟨hb, ho, by simpa using h2, by omega, L, rem, ?_, ?_⟩
  · split at h
    · injection h with _ h; injection h with e _; rw [ht, e, hmet]
    · split at h
      · rename_i h9; injection h with _ h; injection h with _ h; injection h with _ h; exact absurd h h9
      · injection h with _ h; injection h with e _; rw [ht, e, hmet]
  · have hfl : fl = l := by
      split at h
      · injection h with _ h; injection h with e _
      · split at h
        · rename_i h9; injection h with _ h; injection h with _ h; injection h with _ h; exact absurd h h9
        · injection h with _ h; injection h with e _
    subst hfl
    refine ⟨fun h4 => by
      cases fl with
      | nil => rfl
      | cons f fl => exact absurd h4 (hl4 (by simp)), fun h3 => by
      by_cases hr : 0 < rem
      · exact absurd ⟨h3, hr⟩ h7
      · omega, ?_⟩
    split at h
    · rename_i h8
      injection h with e1 h; injection h with _ h; injection h with e2 _
      exact .inl ⟨h8, e1.symm, e2.symm⟩
    · rename_i h8
      split at h
      · rename_i h9; injection h with _ h; injection h with _ h; injection h with _ h; exact absurd h h9
      rename_i h9
      injection h with e1 h; injection h with _ h; injection h with e2 _
      exact .inr ⟨by omega, by omega, fun e => h7 ⟨e, by omega⟩, e2.symm, Prod.ext e1 (by simpa using h9)⟩

/-- the book while the fills are played: what is left of the other side, how much of the order is left; what comes of it. -/
structure Fair (b : Bk) (o : Od) (L : List Od) (rem : Int) (l : List Fl) (L' : List Od) (rem' : Int) : Prop where
  book : BookOk (setOther b o.side L)
  side : o.side = 1 ∨ o.side = -1
  bd : 0 ≤ rem ∧ rem ≤ o.qty
  take : takeL o rem L = (L', l, rem', false)
theorem fair_other {b : Bk} {o : Od} {L : List Od} {rem : Int} {l : List Fl} {L' : List Od} {rem' : Int} (h : Fair b o L rem l L' rem') : SideOk (-o.side) L := by
  have := other_of h.book o.side h.side
  rw [(other_set b o.side L).1] at this
  exact this
theorem fair_end {b : Bk} {o : Od} {L : List Od} {rem : Int} {L' : List Od} {rem' : Int} (h : Fair b o L rem [] L' rem') : L' = L ∧ rem' = rem := by
  have ht := h.take
  have hso := fair_other h
  cases L with
  | nil => simp only [takeL] at ht; injection ht with e1 e; injection e with _ e; injection e with e2 _; exact ⟨e1.symm, e2.symm⟩
  | cons x L =>
    unfold takeL at ht
    split at ht
    · injection ht with e1 e; injection e with _ e; injection e with e2 _; exact ⟨e1.symm, e2.symm⟩
    split at ht
    · injection ht with e1 e; injection e with _ e; injection e with e2 _; exact ⟨e1.symm, e2.symm⟩
    split at ht
    · injection ht with _ e; injection e with _ e; injection e with _ e; cases e
    split at ht
    · injection ht with _ e; injection e with e _; cases e
    · injection ht with _ e; injection e with e _; cases e
theorem setOther_set (b : Bk) (s : Int) (hs : s = 1 ∨ s = -1) (l m : List Od) : setOwn (setOther b s l) (-s) m = setOther b s m ∧ ownOf (setOther b s l) (-s) = l := by
  unfold setOwn setOther ownOf
  rcases hs with hs | hs <;> simp [hs]
/-- one fill: with the one that stands ahead of all others. -/
theorem fair_step {b : Bk} {o : Od} {L : List Od} {rem : Int} {f : Fl} {l : List Fl} {L' : List Od} {rem' : Int} (h : Fair b o L rem (f :: l) L' rem') :
    ∃ y M k, L = y :: M ∧ f = fillOf o y k ∧ (1 ≤ k ∧ k ≤ y.qty ∧ k ≤ rem) ∧ y.acc ≠ o.acc ∧ y.side = -o.side ∧ crossesB o y.price = true ∧ ordErr y = 0 ∧
      findOf (setOther b o.side L) y.id = (y, 0) ∧ (∀ q ∈ (setOther b o.side L).bids ++ (setOther b o.side L).asks, q.side = y.side → q.id ≠ y.id → aheadB q y = false) ∧
      removeOf (setOther b o.side L) y.id = (setOther b o.side M, y, 0) ∧
      (k = y.qty ∧ Fair b o M (rem - k) l L' rem' ∨ k < y.qty ∧ restOf (setOther b o.side M) { y with qty := y.qty - k } = (setOther b o.side ({ y with qty := y.qty - k } :: M), 0) ∧ Fair b o ({ y with qty := y.qty - k } :: M) (rem - k) l L' rem') := by
  have hso := fair_other h
  have hbk := h.book
  have ht := h.take
  have hbd := h.bd
  cases L with
  | nil => simp only [takeL] at ht; injection ht with _ e; injection e with e _; cases e
  | cons y M =>
    have hy := ordErr_ok.1 (hso.ok y (by simp))
    have hys := hso.side y (by simp)
    have hmem : y ∈ (setOther b o.side (y :: M)).bids ++ (setOther b o.side (y :: M)).asks := by
      refine mem_own (s := -o.side) ?_
      rw [(setOther_set b o.side h.side (y :: M) []).2]; simp
    have hnin : ∀ z ∈ M, z.id ≠ y.id := by
      have := hso.ids
      rw [List.map_cons, List.nodup_cons] at this
      intro z hz e
      exact this.1 (List.mem_map.2 ⟨z, hz, e⟩)
    have hdel : delO y.id (y :: M) = M := by
      unfold delO
      rw [List.filter_cons_of_neg (by simp)]
      exact List.filter_eq_self.2 fun z hz => by simp [hnin z hz]
    have hrem : removeOf (setOther b o.side (y :: M)) y.id = (setOther b o.side M, y, 0) := by
      rw [remove_in hbk hmem, hys, (setOther_set b o.side h.side (y :: M) []).2, hdel, (setOther_set b o.side h.side (y :: M) M).1]
    have hbM : BookOk (setOther b o.side M) := by
      have := book_del hbk (-o.side) y.id
      rw [(setOther_set b o.side h.side (y :: M) []).2, hdel, (setOther_set b o.side h.side (y :: M) M).1] at this
      exact this
    have hahead : ∀ q ∈ (setOther b o.side (y :: M)).bids ++ (setOther b o.side (y :: M)).asks, q.side = y.side → q.id ≠ y.id → aheadB q y = false := by
      intro q hq hqs hqi
      obtain ⟨hq2, _⟩ := own_mem hbk hq
      rw [hqs, hys, (setOther_set b o.side h.side (y :: M) []).2] at hq2
      rcases List.mem_cons.1 hq2 with rfl | hq2
      · exact absurd rfl hqi
      · exact ahead_asymm hqs.symm ((List.pairwise_cons.1 hso.sorted).1 q hq2)
    have key : ∀ y' : Od, y'.id = y.id → y'.side = -o.side → BookOk (setOther b o.side (y' :: M)) → restOf (setOther b o.side M) y' = (setOther b o.side (y' :: M), 0) := by
      intro y' e1 e2 hb'
      have hm2 : y' ∈ (setOther b o.side (y' :: M)).bids ++ (setOther b o.side (y' :: M)).asks := by
        refine mem_own (s := -o.side) ?_
        rw [(setOther_set b o.side h.side _ []).2]; simp
      have hr2 := remove_in hb' hm2
      rw [e2, (setOther_set b o.side h.side _ []).2] at hr2
      have hdel2 : delO y'.id (y' :: M) = M := by
        unfold delO
        rw [List.filter_cons_of_neg (by simp)]
        exact List.filter_eq_self.2 fun z hz => by simp [e1, hnin z hz]
      rw [hdel2, (setOther_set b o.side h.side _ M).1] at hr2
      exact (back2 hr2).1
    unfold takeL at ht
    split at ht
    · injection ht with _ e; injection e with e _; cases e
    rename_i h1
    split at ht
    · injection ht with _ e; injection e with e _; cases e
    rename_i h2
    split at ht
    · injection ht with _ e; injection e with e _; cases e
    rename_i h3
    split at ht
    · rename_i h4
      injection ht with e1 e; injection e with e2 e; injection e with e3 e4
      injection e2 with e5 e6
      have hye : ordErr { y with qty := y.qty - rem } = 0 := by rw [ordErr_ok]; simp only; omega
      have hbM2 : BookOk (setOther b o.side ({ y with qty := y.qty - rem } :: M)) := by
        have := book_take hbk o h.side rem
        rw [(other_set b o.side (y :: M)).1, (other_set b o.side (y :: M)).2] at this
        unfold takeL at this
        rw [if_neg h1, if_neg h2, if_neg h3, if_pos h4] at this
        exact this
      refine ⟨y, M, rem, rfl, e5.symm, by omega, h3, hys, by simpa using h2, hso.ok y (by simp), find_in hbk hmem, hahead, hrem, .inr ⟨h4, ?_, hbM2, h.side, by omega, ?_⟩⟩
      · exact key _ rfl hys hbM2
      · rw [show rem - rem = 0 by omega, takeL_zero, e1, e6, e3]
    · rename_i h4
      injection ht with e1 e; injection e with e2 e3
      injection e2 with e5 e6
      refine ⟨y, M, y.qty, rfl, e5.symm, by omega, h3, hys, by simpa using h2, hso.ok y (by simp), find_in hbk hmem, hahead, hrem, .inl ⟨rfl, hbM, h.side, by omega, ?_⟩⟩
      rw [← e1, ← e6]
      exact Prod.ext rfl (Prod.ext rfl e3)

end Go.Proofs.YtockodmbhnlheaaDoor
