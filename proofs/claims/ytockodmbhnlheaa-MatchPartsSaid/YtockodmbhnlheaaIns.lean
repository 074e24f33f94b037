/-
  slices.Insert of one element at []api.Order, on an own row; copy at several cells an element.
-/
import Derived.Test.YtockodmbhnlheaaCat
import Derived.Laws.CopyOwn
import Derived.Lib.AppendZerosOnto
import Derived.Lib.Overlaps
import Derived.Laws.Externs
namespace Go.Proofs.Ytockodmbhnlheaa
open Go.RowKit

section
variable {P : Program}
theorem run_copyK (w : World) (dT sT ty elem : TypeId) (k g off dLen dCap gs os sLen sCap N : Nat) (cur : List Value) (t : TypeId) (cs : List Value)
    (hu : P.underlying dT = some (.slice elem)) (hs : (P.info? elem).map (·.size) = some k) (hg : w.heap[g]? = some (.cells cur.toArray t (0, 0)))
    (hN : N ≤ sLen ∧ N ≤ dLen ∧ (sLen ≤ N ∨ dLen ≤ N)) (hc : cs.length = N * k) (hsrc : ∀ j v, cs[j]? = some v → w.cell? ⟨gs, os + j, none⟩ = some v)
    (hfit : off + cs.length ≤ cur.length) (h1 : ∀ v ∈ cs, v.oneCell' = true) :
    (Builtin.copy_ #[dT, sT] ty #[.slice (some ⟨g, off, none⟩) dLen dCap, .slice (some ⟨gs, os, none⟩) sLen sCap]).run P w = .ok (goInt N) (w.setRow g (splice cur off cs).toArray) := by
  have hl := run_loadCells_list (P := P) w ⟨gs, os, none⟩ cs (fun j v hj => by rw [Addr.add_lit]; exact hsrc j v hj)
  have hst := run_storeCells_at P g off t cs 0 cur.toArray w hg (by simpa using hfit) h1
  have hm : Nat.min sLen dLen = N := by simp only [Nat.min_def]; split <;> omega
  cases hq : P.info? elem with
  | none => simp [hq] at hs
  | some i =>
    have hi : i.size = k := by simpa [hq] using hs
    simp [Builtin.copy_, run_underlying hu, Builtin.lenOf, Builtin.firstCells, sizeOf, typeInfo, hq, hi, hm, ← hc, hl, hst, splice]

theorem wpList_copyK {w : World} {ops : Array Oper} {rest : List Oper} {o : Oper} {a : Act} {Q : Exit → Act → World → Prop} (hgd : o.guard = none) (d s : Operand) (dT sT : TypeId)
    (ho : o.op = .call { callee := .builtin .copy, args := #[d, s], argTypes := #[dT, sT] }) (e k bytes : Nat) (E : Elem P dT e k bytes) (g off dLen dCap gs os sLen sCap : Nat)
    (hd : a.eval d = .slice (some ⟨g, off, none⟩) dLen dCap) (hs : a.eval s = .slice (some ⟨gs, os, none⟩) sLen sCap)
    (N OFF OS : Nat) (hN : off = OFF ∧ os = OS ∧ N ≤ sLen ∧ N ≤ dLen ∧ (sLen ≤ N ∨ dLen ≤ N)) (cur : List Value) (t : TypeId) (hg : w.heap[g]? = some (.cells cur.toArray t (0, 0))) (cs : List Value) (hc : cs.length = N * k)
    (hsrc : ∀ j v, cs[j]? = some v → w.cell? ⟨gs, OS + j, none⟩ = some v) (hfit : OFF + cs.length ≤ cur.length) (h1 : ∀ v ∈ cs, v.oneCell' = true) (B : Nat) (w0 : World) (hb : Below B w0 w) (hBg : B ≤ g)
    (h : ∀ w', Hid (w'.heap[g]? = some (.cells (splice cur OFF cs).toArray t (0, 0))) → Below B w0 w' → (∀ j, j ≠ g → w'.heap[j]? = w.heap[j]?) → wpList P ops Q rest (a.put o.dst (goInt N)) w') : wpList P ops Q (o :: rest) a w := by
  obtain ⟨rfl, rfl, hN⟩ := hN
  obtain ⟨i, z, hi, _, hk, _⟩ := E.hi
  refine wpList_plain hgd fun K hK => ?_
  have hrun := run_copyK (P := P) w dT sT o.type e k g off dLen dCap gs os sLen sCap N cur t cs E.ht (by rw [hi]; simp [hk]) hg hN hc hsrc hfit h1
  unfold Oper.wp
  simp [execOp, ho, resolve, invoke, builtin, hd, hs, hrun, Result.andThen]
  exact hK _ _ (h _ (show _ = _ from setRow_heap w g _ _ t _ hg) (below_setRow hb hBg _) fun j hj => setRow_other w g j _ hj)

theorem step_copyK {ops : Array Oper} {o : Oper} {a : Act} {w : World} {K : Act → World → Prop} {Q : Exit → Act → World → Prop} {X : Prop} (hgd : o.guard = none) (d s : Operand) (dT sT : TypeId)
    (ho : o.op = .call { callee := .builtin .copy, args := #[d, s], argTypes := #[dT, sT] }) (e k bytes : Nat) (E : Elem P dT e k bytes) (g off dLen dCap gs os sLen sCap : Nat)
    (hd : a.eval d = .slice (some ⟨g, off, none⟩) dLen dCap) (hs : a.eval s = .slice (some ⟨gs, os, none⟩) sLen sCap)
    (N OFF OS : Nat) (hN : off = OFF ∧ os = OS ∧ N ≤ sLen ∧ N ≤ dLen ∧ (sLen ≤ N ∨ dLen ≤ N)) (cur : List Value) (t : TypeId) (hg : w.heap[g]? = some (.cells cur.toArray t (0, 0))) (cs : List Value) (hc : cs.length = N * k)
    (hsrc : ∀ j v, cs[j]? = some v → w.cell? ⟨gs, OS + j, none⟩ = some v) (hfit : OFF + cs.length ≤ cur.length) (h1 : ∀ v ∈ cs, v.oneCell' = true) (B : Nat) (w0 : World) (hb : Below B w0 w) (hBg : B ≤ g)
    (h : ∀ w', Hid (w'.heap[g]? = some (.cells (splice cur OFF cs).toArray t (0, 0))) → Below B w0 w' → (∀ j, j ≠ g → w'.heap[j]? = w.heap[j]?) → K (a.put o.dst (goInt N)) w') :
    if Region.wanted o (yielded ops a.tmps) = true then Oper.wp P o a w K Q else X := by
  obtain ⟨rfl, rfl, hN⟩ := hN
  obtain ⟨i, z, hi, _, hk, _⟩ := E.hi
  rw [if_pos (show Region.wanted o (yielded ops a.tmps) = true by simp [Region.wanted, hgd])]
  have hrun := run_copyK (P := P) w dT sT o.type e k g off dLen dCap gs os sLen sCap N cur t cs E.ht (by rw [hi]; simp [hk]) hg hN hc hsrc hfit h1
  unfold Oper.wp
  simp [execOp, ho, resolve, invoke, builtin, hd, hs, hrun, Result.andThen]
  exact h _ (show _ = _ from setRow_heap w g _ _ t _ hg) (below_setRow hb hBg _) fun j hj => setRow_other w g j _ hj
end

theorem ins_new {cur X D O : List Value} (hX : cur.take X.length = X) (hl : X.length + O.length + D.length ≤ cur.length) : (splice (splice cur X.length O) (X.length + O.length) D).take (X.length + O.length + D.length) = X ++ (O ++ D) := by
  have e1 : splice cur X.length O = (X ++ O) ++ cur.drop (X.length + O.length) := by unfold splice; rw [hX]; simp
  have e2 : ((X ++ O) ++ cur.drop (X.length + O.length)).take (X.length + O.length) = X ++ O := by
    rw [List.take_append_of_le_length (by simp)]; exact List.take_of_length_le (by simp)
  rw [e1]
  unfold splice
  rw [e2, ← List.append_assoc (X ++ O) D, List.take_append_of_le_length (by simp; omega)]
  rw [List.take_of_length_le (by simp; omega), List.append_assoc]
theorem ins_shift {cur X D O : List Value} (hX : cur.take X.length = X) (hl : X.length + O.length + D.length ≤ cur.length) : (splice (splice cur (X.length + O.length) D) X.length O).take (X.length + O.length + D.length) = X ++ (O ++ D) := by
  have e1 : (splice cur (X.length + O.length) D).take X.length = X := by
    unfold splice
    rw [List.take_append_of_le_length (by rw [List.length_take]; omega), List.take_take, Nat.min_eq_left (by omega), hX]
  have e2 : (splice cur (X.length + O.length) D).drop (X.length + O.length) = D ++ cur.drop (X.length + O.length + D.length) := by
    unfold splice
    rw [List.drop_append_of_le_length (by rw [List.length_take]; omega)]
    rw [List.drop_of_length_le (by rw [List.length_take]; omega), List.nil_append]
  rw [show splice (splice cur (X.length + O.length) D) X.length O = (splice cur (X.length + O.length) D).take X.length ++ (O ++ (splice cur (X.length + O.length) D).drop (X.length + O.length)) from rfl, e1, e2]
  rw [← List.append_assoc, ← List.append_assoc, List.take_append_of_le_length (by simp; omega), List.take_of_length_le (by simp; omega), List.append_assoc]
end Go.Proofs.Ytockodmbhnlheaa
