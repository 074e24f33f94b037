/-
  PLAIN: the document's reading of numbers into fields, one after the other.
-/
import Derived.Test.YtockodmbhnlheaaDoorTextParP
namespace Go.Proofs.YtockodmbhnlheaaDoor

def setC (o : Nat) (n : Int) (c : Cm) : Cm := if o = 1 then { c with acc := n } else if o = 2 then { c with market := n } else if o = 3 then { c with n := n } else if o = 7 then { c with o := { c.o with price := n } } else if o = 8 then { c with o := { c.o with qty := n } } else c
def finL : List Nat → List (List UInt8) → Cm → Cm × Int
  | [], [], c => (c, 0)
  | o :: F, l :: ws, c => match numOf l with
    | none => (zeroCm, 1)
    | some n => finL F ws (setC o n c)
  | _, _, _ => (zeroCm, 1)
theorem finL_len : ∀ {F : List Nat} {ws : List (List UInt8)} (c : Cm), ws.length ≠ F.length → finL F ws c = (zeroCm, 1)
  | [], [], c, h => absurd rfl h
  | [], _ :: _, c, h => rfl
  | _ :: _, [], c, h => rfl
  | o :: F, l :: ws, c, h => by
    unfold finL
    cases numOf l with
    | none => rfl
    | some n => exact finL_len _ (fun e => h (by simp [e]))
theorem finL_none {F : List Nat} {ws : List (List UInt8)} {i o : Nat} {l : List UInt8} (hF : F.drop i = o :: F.drop (i + 1)) (hw : ws.drop i = l :: ws.drop (i + 1)) (c : Cm) (h : numOf l = none) : finL (F.drop i) (ws.drop i) c = (zeroCm, 1) := by
  rw [hF, hw]; unfold finL; rw [h]
theorem finL_some {F : List Nat} {ws : List (List UInt8)} {i o : Nat} {l : List UInt8} {n : Int} (hF : F.drop i = o :: F.drop (i + 1)) (hw : ws.drop i = l :: ws.drop (i + 1)) (c : Cm) (h : numOf l = some n) : finL (F.drop i) (ws.drop i) c = finL (F.drop (i + 1)) (ws.drop (i + 1)) (setC o n c) := by
  rw [hF, hw]; conv => lhs; unfold finL
  rw [h]
theorem finL_end {F : List Nat} {ws : List (List UInt8)} {i : Nat} (hF : F.length = i) (hw : ws.length = i) (c : Cm) : finL (F.drop i) (ws.drop i) c = (c, 0) := by
  rw [List.drop_of_length_le (by omega), List.drop_of_length_le (by omega)]; rfl
/-- the answer of readWords, whole. -/
def ansW (r : Option Cm) : Cm × Int := match r with
  | some c => (c, 0)
  | none => (zeroCm, 1)
theorem readOf_eq (s : List UInt8) : readOf s = ansW (readWords (spl 32 s)) := by
  unfold readOf ansW; rfl
theorem fin_seven (r : List (List UInt8)) {kw : List UInt8} (h : kindOf kw = 7) : ansW (readWords (kw :: r)) = finL [] r { zeroCm with kind := 7 } := by
  rw [read_seven r h]
  cases r with
  | nil => rfl
  | cons a b => rfl
theorem fin_two (r : List (List UInt8)) {kw : List UInt8} (h0 : kindOf kw ≠ 0) (h3 : kindOf kw ≠ 3) (h7 : kindOf kw ≠ 7) : ansW (readWords (kw :: r)) = finL (if isMkt (kindOf kw) then [2, 3] else [1, 3]) r { zeroCm with kind := kindOf kw } := by
  have : readWords (kw :: r) = twoW (kindOf kw) r := by
    show (if kindOf kw = 0 then none else if kindOf kw = 3 then _ else if kindOf kw = 7 then _ else _) = _
    rw [if_neg h0, if_neg h3, if_neg h7]
  rw [this]
  have hl : (if isMkt (kindOf kw) = true then [2, 3] else [1, 3]).length = 2 := by split <;> rfl
  match r, hl with
  | [], _ => rw [finL_len _ (by rw [hl]; decide)]; rfl
  | [_], _ => rw [finL_len _ (by rw [hl]; simp)]; rfl
  | _ :: _ :: _ :: _, _ => rw [finL_len _ (by rw [hl]; simp)]; rfl
  | [a, n], _ =>
    unfold twoW
    cases isMkt (kindOf kw) <;> cases ha : numOf a <;> cases hn : numOf n <;> simp [finL, ha, hn, ansW, setC]
theorem order_fin (red : Bool) {w0 w1 w2 w3 w4 w5 w6 : List UInt8} {s : Int} (hs : sideOfW w3 = some s) (hh : howOf w6 ≠ 0) : ansW (orderW red [w0, w1, w2, w3, w4, w5, w6]) = finL [1, 2, 8, 7] [w1, w2, w4, w5] ⟨3, 0, 0, 0, ⟨0, 0, s, 0, 0⟩, howOf w6, red⟩ := by
  unfold orderW
  cases h1 : numOf w1 <;> cases h2 : numOf w2 <;> cases h4 : numOf w4 <;> cases h5 : numOf w5 <;> simp [finL, h1, h2, h4, h5, hs, hh, ansW, setC]
theorem order_how (red : Bool) {w0 w1 w2 w3 w4 w5 w6 : List UInt8} (hh : howOf w6 = 0) : orderW red [w0, w1, w2, w3, w4, w5, w6] = none := by
  unfold orderW
  cases h1 : numOf w1 <;> cases h2 : numOf w2 <;> cases h4 : numOf w4 <;> cases h5 : numOf w5 <;> cases h3 : sideOfW w3 <;> simp [h1, h2, h3, h4, h5, hh]
theorem order_side (red : Bool) {w0 w1 w2 w3 w4 w5 w6 : List UInt8} (hs : sideOfW w3 = none) : orderW red [w0, w1, w2, w3, w4, w5, w6] = none := by
  unfold orderW
  cases h1 : numOf w1 <;> cases h2 : numOf w2 <;> cases h4 : numOf w4 <;> cases h5 : numOf w5 <;> simp [h1, h2, h4, h5, hs]
end Go.Proofs.YtockodmbhnlheaaDoor
