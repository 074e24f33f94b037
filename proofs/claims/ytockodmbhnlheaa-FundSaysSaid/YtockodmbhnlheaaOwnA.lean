/-
  A ROW OF ACCOUNTS of the call's own: each account's positions lie in a row of the call's own, too.
-/
import Derived.Test.YtockodmbhnlheaaShape
import Derived.Test.YtockodmbhnlheaaMore
namespace Go.Proofs.Ytockodmbhnlheaa
open Go.RowKit

/-- three cells an account. -/
def AccCells (w : World) (base : Nat) : List Ac → List Value → Prop
  | [], xs => xs = []
  | a :: L, xs => ∃ A c ys, xs = .int .i64 a.id :: .int .i64 a.bal :: .slice A a.pos.length c :: ys ∧ w.ownsRow base 3 1 (.slice A a.pos.length c) a.pos.length (ints a.pos) ∧ a.pos.length * 8 ≤ 140737488355328 ∧ AccCells w base L ys
theorem AccCells.mono {w w' : World} {base base' : Nat} (hk : ∀ v n xs, w.ownsRow base 3 1 v n xs → w'.ownsRow base' 3 1 v n xs) : ∀ {L : List Ac} {xs : List Value}, AccCells w base L xs → AccCells w' base' L xs
  | [], _, h => h
  | _ :: _, _, ⟨A, c, ys, h1, h2, h3, h4⟩ => ⟨A, c, ys, h1, hk _ _ _ h2, h3, h4.mono hk⟩
theorem AccCells.append {w : World} {base : Nat} {M : List Ac} {ys : List Value} (h2 : AccCells w base M ys) : ∀ {L : List Ac} {xs : List Value}, AccCells w base L xs → AccCells w base (L ++ M) (xs ++ ys)
  | [], _, h => by
    have h : _ = [] := h
    subst h; exact h2
  | _ :: _, _, ⟨A, c, zs, h1, h3, h4, h5⟩ => by subst h1; exact ⟨A, c, zs ++ ys, rfl, h3, h4, AccCells.append h2 h5⟩
theorem AccCells.len {w : World} {base : Nat} : ∀ {L : List Ac} {xs : List Value}, AccCells w base L xs → xs.length = L.length * 3
  | [], _, h => by
    have h : _ = [] := h
    subst h; rfl
  | _ :: L, _, ⟨A, c, zs, h1, _, _, h5⟩ => by subst h1; have := h5.len; simp only [List.length_cons]; omega
theorem AccCells.at_ {w : World} {base : Nat} : ∀ {L : List Ac} {xs : List Value}, AccCells w base L xs → ∀ {i : Nat} {a : Ac}, L[i]? = some a →
    ∃ A c, xs[i * 3]? = some (.int .i64 a.id) ∧ xs[i * 3 + 1]? = some (.int .i64 a.bal) ∧ xs[i * 3 + 2]? = some (.slice A a.pos.length c) ∧ w.ownsRow base 3 1 (.slice A a.pos.length c) a.pos.length (ints a.pos) ∧ a.pos.length * 8 ≤ 140737488355328
  | [], _, _, i, a, ha => by simp at ha
  | _ :: _, _, ⟨A, c, zs, h1, h3, h4, h5⟩, 0, a, ha => by
    subst h1
    simp only [List.getElem?_cons_zero, Option.some.injEq] at ha
    subst ha
    exact ⟨A, c, rfl, rfl, rfl, h3, h4⟩
  | _ :: _, _, ⟨A, c, zs, h1, h3, h4, h5⟩, i + 1, a, ha => by
    subst h1
    simp only [List.getElem?_cons_succ] at ha
    obtain ⟨A', c', k1, k2, k3, k4⟩ := h5.at_ ha
    refine ⟨A', c', ?_, ?_, ?_, k4⟩
    · rw [show (i + 1) * 3 = i * 3 + 1 + 1 + 1 by omega]; exact k1
    · rw [show (i + 1) * 3 + 1 = i * 3 + 1 + 1 + 1 + 1 by omega]; exact k2
    · rw [show (i + 1) * 3 + 2 = i * 3 + 2 + 1 + 1 + 1 by omega]; exact k3
theorem AccCells.one {w : World} {base : Nat} : ∀ {L : List Ac} {xs : List Value}, AccCells w base L xs → ∀ u ∈ xs, u.oneCell' = true
  | [], _, h => by
    have h : _ = [] := h
    subst h; simp
  | _ :: L, _, ⟨A, c, zs, h1, _, _, h5⟩ => by
    subst h1
    intro u hu
    simp only [List.mem_cons] at hu
    rcases hu with rfl | rfl | rfl | hu
    · rfl
    · rfl
    · rfl
    · exact h5.one u hu

def OwnAccs (w : World) (base : Nat) (v : Value) (n : Nat) (L : List Ac) : Prop := ∃ xs, w.ownsRow base 37 3 v n xs ∧ AccCells w base L xs
theorem OwnAccs.nil (w : World) (base : Nat) : OwnAccs w base (.slice none 0 0) 0 [] := ⟨[], World.ownsRow_nil _ _ _ _, rfl⟩
theorem OwnAccs.below {w w' : World} {base n B : Nat} {v : Value} {L : List Ac} (h : OwnAccs w base v n L) (hb : Below B w w') (hB : w.heap.size ≤ B) : OwnAccs w' base v n L := by
  obtain ⟨xs, h1, h2⟩ := h
  exact ⟨xs, own_below h1 hb hB, h2.mono fun _ _ _ h => own_below h hb hB⟩
/-- rows of different element types lie in different blocks. -/
theorem own_ne {w : World} {base base' e e' k k' n n' : Nat} {v v' : Value} {xs ys : List Value} (h : w.ownsRow base e k v n xs) (h' : w.ownsRow base' e' k' v' n' ys) (hne : e ≠ e') : v.ownBlock = none ∨ v.ownBlock ≠ v'.ownBlock := by
  obtain ⟨_, ⟨rfl, _⟩ | ⟨g, cap, cur, rfl, _, hg, _⟩⟩ := h
  · exact .inl rfl
  · right
    obtain ⟨_, ⟨rfl, _⟩ | ⟨g', cap', cur', rfl, _, hg', _⟩⟩ := h'
    · simp [Value.ownBlock]
    · intro he
      have : g = g' := by simpa [Value.ownBlock] using he
      subst this
      rw [hg] at hg'
      injection hg' with hg'
      injection hg' with _ ht
      exact hne ht
theorem OwnAccs.form {w : World} {base n : Nat} {v : Value} {L : List Ac} (h : OwnAccs w base v n L) : ∃ A c, v = .slice A n c := own_shape h.choose_spec.1
theorem OwnAccs.len {w : World} {base n : Nat} {v : Value} {L : List Ac} (h : OwnAccs w base v n L) : L.length = n := by
  obtain ⟨xs, h1, h2⟩ := h
  have := h2.len
  have := h1.1
  omega
/-- one more, behind an append. -/
theorem OwnAccs.snoc {w w' : World} {base n : Nat} {v v' : Value} {L : List Ac} {a : Ac} {A : Option Addr} {c : Nat} {xs : List Value} (h : w.ownsRow base 37 3 v n xs) (hc : AccCells w base L xs)
    (ha : w.ownsRow base 3 1 (.slice A a.pos.length c) a.pos.length (ints a.pos)) (hl : a.pos.length * 8 ≤ 140737488355328) (hg : w.grownBy w' v.ownBlock) (hown : w'.ownsRow base 37 3 v' (n + 1) (xs ++ [.int .i64 a.id, .int .i64 a.bal, .slice A a.pos.length c])) :
    OwnAccs w' base v' (n + 1) (L ++ [a]) := by
  refine ⟨_, hown, AccCells.append ?_ (hc.mono fun _ _ _ h1 => World.ownsRow.kept h1 hg (own_ne h1 h (by decide)))⟩
  exact ⟨A, c, [], rfl, World.ownsRow.kept ha hg (own_ne ha h (by decide)), hl, rfl⟩
/-- as a slice of structs that reads. -/
theorem OwnAccs.read {w : World} {base n c : Nat} {A : Option Addr} {L : List Ac} (h : OwnAccs w base (.slice A n c) n L) : RdL shAcc w w.heap.size A n c L := by
  have hl := h.len
  obtain ⟨xs, h1, h2⟩ := h
  have hr := Rd.of_own h1
  refine ⟨hl, hr.le, hr.cap, hr.nil, fun hn => ?_⟩
  obtain ⟨b, o, e, hb, hc⟩ := hr.at_ hn
  refine ⟨b, o, e, hb, fun i a ha => ?_⟩
  obtain ⟨A2, c2, k1, k2, k3, k4, k5⟩ := h2.at_ ha
  exact ⟨A2, c2, hc _ _ k1, by rw [Nat.add_assoc]; exact hc _ _ k2, by rw [Nat.add_assoc]; exact hc _ _ k3, Rd.of_own k4, k5⟩

end Go.Proofs.Ytockodmbhnlheaa
