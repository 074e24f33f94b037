/-
  PLAIN LEAN, no program in sight: what rests and is removed was never there; the order in which orders come to rest.
-/
import Derived.Test.YtockodmbhnlheaaDoorBookPure
namespace Go.Proofs.YtockodmbhnlheaaDoor

theorem rest_ok {b x : Bk} {o : Od} (h : restOf b o = (x, 0)) :
    BookOk b ∧ ordErr o = 0 ∧ hasB b o.id = false ∧ b.bids.length + b.asks.length < 40 ∧ headCrosses o (otherOf b o.side) = false ∧ x = setOwn b o.side (insO o (ownOf b o.side)) := by
  unfold restOf at h
  split at h
  · rename_i h1; injection h with _ h2; exact absurd h2 h1
  rename_i h1
  have hb := bookErr_ok.1 (show bookErr b = 0 by omega)
  split at h
  · injection h with _ h2; omega
  rename_i h2
  split at h
  · rename_i h3; injection h with _ h4; exact absurd h4 h3
  rename_i h3
  split at h
  · injection h with _ h4; omega
  rename_i h4
  split at h
  · injection h with _ h5; omega
  rename_i h5
  injection h with h6 _
  have := hb.len
  exact ⟨hb, by omega, by simpa using h2, by omega, by simpa using h5, h6.symm⟩
/-- who doesn't cross the first one crosses nobody. -/
theorem cross_all {b : Bk} {o : Od} (h : BookOk b) (hs : o.side = 1 ∨ o.side = -1) (hc : headCrosses o (otherOf b o.side) = false) : ∀ y ∈ otherOf b o.side, crossesB o y.price = false := by
  rcases hs with hs | hs
  · have e : otherOf b o.side = b.asks := by unfold otherOf; rw [if_pos hs]
    rw [e] at hc ⊢
    intro y hy
    have hso := h.asks
    cases hb : b.asks with
    | nil => rw [hb] at hy; cases hy
    | cons z l =>
      rw [hb] at hc hy hso
      simp only [headCrosses, crossesB] at hc
      rw [if_pos hs] at hc
      unfold crossesB
      rw [if_pos hs]
      simp only [decide_eq_false_iff_not] at hc ⊢
      rcases List.mem_cons.1 hy with rfl | hy
      · exact hc
      · have := (List.pairwise_cons.1 hso.sorted).1 y hy
        rw [ahead_sell (by rw [hso.side z (by simp)]; decide)] at this
        omega
  · have hs1 : ¬ o.side = 1 := by omega
    have e : otherOf b o.side = b.bids := by unfold otherOf; rw [if_neg hs1]
    rw [e] at hc ⊢
    intro y hy
    have hso := h.bids
    cases hb : b.bids with
    | nil => rw [hb] at hy; cases hy
    | cons z l =>
      rw [hb] at hc hy hso
      simp only [headCrosses, crossesB] at hc
      rw [if_neg hs1] at hc
      unfold crossesB
      rw [if_neg hs1]
      simp only [decide_eq_false_iff_not] at hc ⊢
      rcases List.mem_cons.1 hy with rfl | hy
      · exact hc
      · have := (List.pairwise_cons.1 hso.sorted).1 y hy
        rw [ahead_buy (hso.side z (by simp))] at this
        omega
theorem rest_book {b : Bk} {o : Od} (h : BookOk b) (ho : ordErr o = 0) (hi : hasB b o.id = false) (hl : b.bids.length + b.asks.length < 40) (hc : ∀ y ∈ otherOf b o.side, crossesB o y.price = false) :
    restOf b o = (setOwn b o.side (insO o (ownOf b o.side)), 0) ∧ BookOk (setOwn b o.side (insO o (ownOf b o.side))) := by
  obtain ⟨hi1, hi2⟩ := hasB_not.1 hi
  have hs := (ordErr_ok.1 ho).2.2.1
  constructor
  · unfold restOf
    rw [if_neg (by rw [bookErr_ok.2 h]; simp), if_neg (by rw [hi]; simp), if_neg (by rw [ho]; simp), if_neg (by omega), if_neg ?_]
    rw [Bool.not_eq_true]
    cases hh : otherOf b o.side with
    | nil => rfl
    | cons z l => rw [hh] at hc; exact hc z (by simp)
  · have hf := free_all h
    rcases hs with hs | hs
    · have e1 : ownOf b o.side = b.bids := by unfold ownOf; rw [if_pos hs]
      have e2 : ∀ l, setOwn b o.side l = { b with bids := l } := by intro l; unfold setOwn; rw [if_pos hs]
      have e3 : otherOf b o.side = b.asks := by unfold otherOf; rw [if_pos hs]
      rw [e1, e2]
      rw [e3] at hc
      refine ⟨by simp only [length_insO]; omega, sideOk_insO h.bids ho hs hi1, h.asks, ?_, free_of ?_⟩
      · intro x hx y hy
        rcases mem_insO.1 hx with rfl | hx
        · exact fun e => hi2 y hy e.symm
        · exact h.apart x hx y hy
      · intro x hx y hy
        rcases mem_insO.1 hx with rfl | hx
        · have := hc y hy
          unfold crossesB at this
          rw [if_pos hs] at this
          simp only [decide_eq_false_iff_not] at this
          omega
        · exact hf x hx y hy
    · have hs1 : ¬ o.side = 1 := by omega
      have e1 : ownOf b o.side = b.asks := by unfold ownOf; rw [if_neg hs1]
      have e2 : ∀ l, setOwn b o.side l = { b with asks := l } := by intro l; unfold setOwn; rw [if_neg hs1]
      have e3 : otherOf b o.side = b.bids := by unfold otherOf; rw [if_neg hs1]
      rw [e1, e2]
      rw [e3] at hc
      refine ⟨by simp only [length_insO]; omega, h.bids, sideOk_insO h.asks ho hs hi2, ?_, free_of ?_⟩
      · intro x hx y hy
        rcases mem_insO.1 hy with rfl | hy
        · exact hi1 x hx
        · exact h.apart x hx y hy
      · intro x hx y hy
        rcases mem_insO.1 hy with rfl | hy
        · have := hc x hx
          unfold crossesB at this
          rw [if_neg hs1] at this
          simp only [decide_eq_false_iff_not] at this
          omega
        · exact hf x hx y hy

theorem own_mem {b : Bk} (h : BookOk b) {o : Od} (ho : o ∈ b.bids ++ b.asks) : o ∈ ownOf b o.side ∧ ordErr o = 0 := by
  rcases List.mem_append.1 ho with ho | ho
  · have hs := h.bids.side o ho
    unfold ownOf; rw [if_pos hs]; exact ⟨ho, h.bids.ok o ho⟩
  · have hs := h.asks.side o ho
    unfold ownOf; rw [if_neg (by omega)]; exact ⟨ho, h.asks.ok o ho⟩
theorem own_of {b : Bk} (h : BookOk b) (s : Int) (hs : s = 1 ∨ s = -1) : SideOk s (ownOf b s) := by
  unfold ownOf
  rcases hs with hs | hs
  · rw [if_pos hs, hs]; exact h.bids
  · rw [if_neg (by omega), hs]; exact h.asks
theorem own_set (b : Bk) (s : Int) (l : List Od) : ownOf (setOwn b s l) s = l ∧ otherOf (setOwn b s l) s = otherOf b s ∧ setOwn b s (ownOf b s) = b := by
  unfold ownOf setOwn otherOf
  by_cases h : s = 1
  · simp [h]
  · simp [h]
theorem set_set (b : Bk) (s : Int) (l m : List Od) : setOwn (setOwn b s l) s m = setOwn b s m := by
  unfold setOwn
  by_cases h : s = 1
  · simp [h]
  · simp [h]
theorem mem_own {b : Bk} {s : Int} {o : Od} (ho : o ∈ ownOf b s) : o ∈ b.bids ++ b.asks := by
  unfold ownOf at ho
  split at ho
  · exact List.mem_append.2 (.inl ho)
  · exact List.mem_append.2 (.inr ho)
theorem find_in {b : Bk} (h : BookOk b) {o : Od} (ho : o ∈ b.bids ++ b.asks) : findOf b o.id = (o, 0) := by
  unfold findOf
  rw [if_neg (by rw [bookErr_ok.2 h]; simp), findO_of h ho]
theorem remove_in {b : Bk} (h : BookOk b) {o : Od} (ho : o ∈ b.bids ++ b.asks) : removeOf b o.id = (setOwn b o.side (delO o.id (ownOf b o.side)), o, 0) := by
  unfold removeOf
  rw [find_in h ho]
  simp

/-- what rests and is removed was never there. -/
theorem back1 {b x : Bk} {o : Od} (h : restOf b o = (x, 0)) : bookErr x = 0 ∧ removeOf x o.id = (b, o, 0) ∧ findOf x o.id = (o, 0) := by
  obtain ⟨hb, ho, hi, hl, hc, rfl⟩ := rest_ok h
  have hs := (ordErr_ok.1 ho).2.2.1
  obtain ⟨_, hx⟩ := rest_book hb ho hi hl (cross_all hb hs hc)
  obtain ⟨e1, e2, e3⟩ := own_set b o.side (insO o (ownOf b o.side))
  have hm : o ∈ ownOf (setOwn b o.side (insO o (ownOf b o.side))) o.side := by rw [e1]; exact mem_insO.2 (.inl rfl)
  have hm := mem_own hm
  refine ⟨bookErr_ok.2 hx, ?_, find_in hx hm⟩
  rw [remove_in hx hm, e1, set_set]
  obtain ⟨hi1, hi2⟩ := hasB_not.1 hi
  have hid : ∀ y ∈ ownOf b o.side, y.id ≠ o.id := by
    intro y hy
    unfold ownOf at hy
    split at hy
    · exact hi1 y hy
    · exact hi2 y hy
  rw [del_ins (own_of hb o.side hs) ho rfl hid, e3]

theorem remove_ok {b x : Bk} {id : Int} {o : Od} (h : removeOf b id = (x, o, 0)) : BookOk b ∧ o ∈ b.bids ++ b.asks ∧ o.id = id ∧ x = setOwn b o.side (delO o.id (ownOf b o.side)) := by
  unfold removeOf at h
  split at h
  · rename_i h1; injection h with _ h; injection h with _ h2; exact absurd h2 h1
  rename_i h1
  injection h with h2 h; injection h with h3 _
  unfold findOf at h1 h2 h3
  split at h1
  · rename_i h4; simp at h1; exact absurd h1 h4
  rename_i h4
  have hb := bookErr_ok.1 (show bookErr b = 0 by omega)
  rw [if_neg h4] at h2 h3
  cases hf : findO (b.bids ++ b.asks) id with
  | none => rw [hf] at h1; simp at h1
  | some z =>
    rw [hf] at h2 h3
    simp only at h2 h3
    subst h3
    obtain ⟨k1, k2⟩ := findO_some hf
    exact ⟨hb, k1, k2, by rw [← h2, k2]⟩
theorem book_sub {b : Bk} (h : BookOk b) {l m : List Od} (hl : l.Sublist b.bids) (hm : m.Sublist b.asks) : BookOk ⟨l, m⟩ := by
  refine ⟨?_, sideOk_sub h.bids hl, sideOk_sub h.asks hm, fun x hx y hy => h.apart x (hl.subset hx) y (hm.subset hy), free_of fun x hx y hy => free_all h x (hl.subset hx) y (hm.subset hy)⟩
  have := h.len
  have := hl.length_le
  have := hm.length_le
  simp only
  omega
theorem book_del {b : Bk} (h : BookOk b) (s id : Int) : BookOk (setOwn b s (delO id (ownOf b s))) := by
  unfold setOwn ownOf
  split
  · exact book_sub h List.filter_sublist (List.Sublist.refl _)
  · exact book_sub h (List.Sublist.refl _) List.filter_sublist

/-- what is removed rests again where it was. -/
theorem back2 {b x : Bk} {id : Int} {o : Od} (h : removeOf b id = (x, o, 0)) : restOf x o = (b, 0) ∧ bookErr x = 0 := by
  obtain ⟨hb, hm, hi, rfl⟩ := remove_ok h
  obtain ⟨hm2, ho⟩ := own_mem hb hm
  have hx := book_del hb o.side o.id
  have hs := (ordErr_ok.1 ho).2.2.1
  refine ⟨?_, bookErr_ok.2 hx⟩
  obtain ⟨e1, e2, e3⟩ := own_set b o.side (delO o.id (ownOf b o.side))
  have hso := own_of hb o.side hs
  have hr := (rest_book hx ho (hasB_not.2 ?_) ?_ ?_).1
  · rw [hr, e1, set_set, ins_del hso hm2, e3]
  · unfold setOwn ownOf
    rcases hs with hs | hs
    · rw [if_pos hs, if_pos hs]
      refine ⟨fun y hy => (mem_delO.1 hy).2, fun y hy e => ?_⟩
      unfold ownOf at hm2; rw [if_pos hs] at hm2
      exact hb.apart o hm2 y hy e.symm
    · have hs1 : ¬ o.side = 1 := by omega
      rw [if_neg hs1, if_neg hs1]
      refine ⟨fun y hy e => ?_, fun y hy => (mem_delO.1 hy).2⟩
      unfold ownOf at hm2; rw [if_neg hs1] at hm2
      exact hb.apart y hy o hm2 e
  · have hlt : (delO o.id (ownOf b o.side)).length < (ownOf b o.side).length := by
      have h1 : (delO o.id (ownOf b o.side)).length = (ownOf b o.side).length - 1 := by
        have := ins_del hso hm2
        have h2 : (insO o (delO o.id (ownOf b o.side))).length = (ownOf b o.side).length := by rw [this]
        rw [length_insO] at h2; omega
      have h2 : 0 < (ownOf b o.side).length := List.length_pos_of_mem hm2
      omega
    have hll := hb.len
    unfold setOwn
    unfold ownOf at hlt ⊢
    split
    · rename_i hs1; rw [if_pos hs1] at hlt; simp only; omega
    · rename_i hs1; rw [if_neg hs1] at hlt; simp only; omega
  · rw [e2]
    intro y hy
    have hf := free_all hb
    unfold otherOf at hy
    unfold ownOf at hm2
    unfold crossesB
    rcases hs with hs | hs
    · rw [if_pos hs] at hy hm2 ⊢
      have := hf o hm2 y hy
      simp only [decide_eq_false_iff_not]; omega
    · have hs1 : ¬ o.side = 1 := by omega
      rw [if_neg hs1] at hy hm2 ⊢
      have := hf y hy o hm2
      simp only [decide_eq_false_iff_not]; omega

/-! ### in whatever order they come -/
structure Coming (b x : Bk) (l : List Od) : Prop where
  right : BookOk b
  book : BookOk x
  bids : ∀ o, o ∈ x.bids ↔ o ∈ b.bids ∧ o ∉ l
  asks : ∀ o, o ∈ x.asks ↔ o ∈ b.asks ∧ o ∉ l
  sub : ∀ o ∈ l, o ∈ b.bids ++ b.asks
  nodup : l.Nodup
  len : x.bids.length + x.asks.length + l.length = b.bids.length + b.asks.length
theorem nodup_of_ids {l : List Od} (h : (l.map Od.id).Nodup) : l.Nodup := by
  unfold List.Nodup at h ⊢
  rw [List.pairwise_map] at h
  exact h.imp fun hne e => hne (by rw [e])
theorem coming_start {b : Bk} (h : BookOk b) : Coming b zeroBk (b.bids ++ b.asks) := by
  refine ⟨h, ⟨by simp [zeroBk], ⟨by simp [zeroBk], by simp [zeroBk], List.Pairwise.nil, by simp [zeroBk]⟩, ⟨by simp [zeroBk], by simp [zeroBk], List.Pairwise.nil, by simp [zeroBk]⟩, by simp [zeroBk], rfl⟩, ?_, ?_, fun o ho => ho, ?_, by simp [zeroBk]⟩
  · intro o; simp [zeroBk]; intro h; simp [h]
  · intro o; simp [zeroBk]; intro h; simp [h]
  · refine List.nodup_append.2 ⟨nodup_of_ids h.bids.ids, nodup_of_ids h.asks.ids, ?_⟩
    intro x hx y hy e
    exact h.apart x hx y hy (by rw [e])
theorem coming_end {b x : Bk} (h : Coming b x []) : x = b := by
  obtain ⟨x1, x2⟩ := x
  obtain ⟨b1, b2⟩ := b
  have e1 := sorted_ext h.book.bids.side h.right.bids.side h.book.bids.sorted h.right.bids.sorted (fun o => by simpa using h.bids o)
  have e2 := sorted_ext h.book.asks.side h.right.asks.side h.book.asks.sorted h.right.asks.sorted (fun o => by simpa using h.asks o)
  simp only at e1 e2
  rw [e1, e2]
theorem nodup_mid {l1 l2 : List Od} {o : Od} (h : (l1 ++ o :: l2).Nodup) : o ∉ l1 ++ l2 ∧ (l1 ++ l2).Nodup := by
  rw [List.nodup_append] at h
  obtain ⟨h1, h2, h3⟩ := h
  obtain ⟨h4, h5⟩ := List.nodup_cons.1 h2
  refine ⟨fun hm => ?_, List.nodup_append.2 ⟨h1, h5, fun x hx y hy => h3 x hx y (by simp [hy])⟩⟩
  rcases List.mem_append.1 hm with hm | hm
  · exact h3 o hm o (by simp) rfl
  · exact h4 hm
theorem coming_step {b x : Bk} {l l1 l2 : List Od} {o : Od} (h : Coming b x l) (hl : l = l1 ++ o :: l2) : ∃ x', restOf x o = (x', 0) ∧ Coming b x' (l1 ++ l2) := by
  subst hl
  have hm := h.sub o (by simp)
  obtain ⟨hm2, ho⟩ := own_mem h.right hm
  have hs := (ordErr_ok.1 ho).2.2.1
  have hll := h.right.len
  have hlen := h.len
  simp only [List.length_append, List.length_cons] at hlen
  obtain ⟨hn1, hn2⟩ := nodup_mid h.nodup
  have hi : hasB x o.id = false := by
    refine hasB_not.2 ⟨fun y hy e => ?_, fun y hy e => ?_⟩
    · obtain ⟨k1, k2⟩ := (h.bids y).1 hy
      have := bookOk_ids h.right (List.mem_append.2 (.inl k1)) hm e
      subst this; exact k2 (by simp)
    · obtain ⟨k1, k2⟩ := (h.asks y).1 hy
      have := bookOk_ids h.right (List.mem_append.2 (.inr k1)) hm e
      subst this; exact k2 (by simp)
  have hf := free_all h.right
  have hc : ∀ y ∈ otherOf x o.side, crossesB o y.price = false := by
    intro y hy
    unfold otherOf at hy
    unfold ownOf at hm2
    unfold crossesB
    rcases hs with hs | hs
    · rw [if_pos hs] at hy hm2 ⊢
      have := hf o hm2 y ((h.asks y).1 hy).1
      simp only [decide_eq_false_iff_not]; omega
    · have hs1 : ¬ o.side = 1 := by omega
      rw [if_neg hs1] at hy hm2 ⊢
      have := hf y ((h.bids y).1 hy).1 o hm2
      simp only [decide_eq_false_iff_not]; omega
  obtain ⟨r1, r2⟩ := rest_book h.book ho hi (by omega) hc
  refine ⟨_, r1, ⟨h.right, r2, ?_, ?_, fun y hy => h.sub y (by simp only [List.mem_append, List.mem_cons] at hy ⊢; rcases hy with hy | hy <;> simp [hy]), hn2, ?_⟩⟩
  · intro y
    unfold setOwn
    unfold ownOf at hm2 ⊢
    rcases hs with hs | hs
    · rw [if_pos hs] at hm2
      rw [if_pos hs, if_pos hs]
      simp only
      rw [mem_insO, h.bids]
      constructor
      · rintro (rfl | ⟨k1, k2⟩)
        · exact ⟨hm2, hn1⟩
        · exact ⟨k1, fun k => k2 (by simp only [List.mem_append, List.mem_cons] at k ⊢; rcases k with k | k <;> simp [k])⟩
      · rintro ⟨k1, k2⟩
        by_cases e : y = o
        · exact .inl e
        · exact .inr ⟨k1, fun k => k2 (by simp only [List.mem_append, List.mem_cons] at k ⊢; rcases k with k | k | k <;> first | exact absurd k e | simp [k])⟩
    · have hs1 : ¬ o.side = 1 := by omega
      rw [if_neg hs1] at hm2
      rw [if_neg hs1]
      simp only
      rw [h.bids]
      constructor
      · rintro ⟨k1, k2⟩
        exact ⟨k1, fun k => k2 (by simp only [List.mem_append, List.mem_cons] at k ⊢; rcases k with k | k <;> simp [k])⟩
      · rintro ⟨k1, k2⟩
        refine ⟨k1, fun k => ?_⟩
        simp only [List.mem_append, List.mem_cons] at k k2
        rcases k with k | k | k
        · exact k2 (.inl k)
        · subst k; exact h.right.apart y k1 y hm2 rfl
        · exact k2 (.inr k)
  · intro y
    unfold setOwn
    unfold ownOf at hm2 ⊢
    rcases hs with hs | hs
    · rw [if_pos hs] at hm2
      rw [if_pos hs]
      simp only
      rw [h.asks]
      constructor
      · rintro ⟨k1, k2⟩
        exact ⟨k1, fun k => k2 (by simp only [List.mem_append, List.mem_cons] at k ⊢; rcases k with k | k <;> simp [k])⟩
      · rintro ⟨k1, k2⟩
        refine ⟨k1, fun k => ?_⟩
        simp only [List.mem_append, List.mem_cons] at k k2
        rcases k with k | k | k
        · exact k2 (.inl k)
        · subst k; exact h.right.apart y hm2 y k1 rfl
        · exact k2 (.inr k)
    · have hs1 : ¬ o.side = 1 := by omega
      rw [if_neg hs1] at hm2
      rw [if_neg hs1, if_neg hs1]
      simp only
      rw [mem_insO, h.asks]
      constructor
      · rintro (rfl | ⟨k1, k2⟩)
        · exact ⟨hm2, hn1⟩
        · exact ⟨k1, fun k => k2 (by simp only [List.mem_append, List.mem_cons] at k ⊢; rcases k with k | k <;> simp [k])⟩
      · rintro ⟨k1, k2⟩
        by_cases e : y = o
        · exact .inl e
        · exact .inr ⟨k1, fun k => k2 (by simp only [List.mem_append, List.mem_cons] at k ⊢; rcases k with k | k | k <;> first | exact absurd k e | simp [k])⟩
  · unfold setOwn ownOf
    by_cases hs1 : o.side = 1
    · rw [if_pos hs1, if_pos hs1]; simp only [length_insO, List.length_append]; omega
    · rw [if_neg hs1, if_neg hs1]; simp only [length_insO, List.length_append]; omega

end Go.Proofs.YtockodmbhnlheaaDoor
