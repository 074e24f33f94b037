/-
  ARGUMENTS THAT ARE COMMANDS, opened to cells (a seat without venues).
-/
import Derived.Test.YtockodmbhnlheaaDoorRow
import Derived.Test.YtockodmbhnlheaaDoorVenuePure
import Derived.Deep.Slices
namespace Go.Proofs.YtockodmbhnlheaaDoor
open Go.ChangeShapes Go.WideShapes Go.ChangeAt Go.RowKit

structure FitOd (o : Od) : Prop where
  id : inI64 o.id
  acc : inI64 o.acc
  side : inI64 o.side
  price : inI64 o.price
  qty : inI64 o.qty
structure FitCm (c : Cm) : Prop where
  kind : inI64 c.kind
  acc : inI64 c.acc
  market : inI64 c.market
  n : inI64 c.n
  o : FitOd c.o
  how : inI64 c.how
section
variable {H : Type} {enc : TypeId × Value → H} {W : World}
theorem core_int {fuel : Nat} {cs : List Value} {x : DataW H × List MemPlace} (h : DataW.trod enc Tryd.prog W 0 (fun _ => true) true fuel 3 cs = some x) : ∃ z, cs = [.int .i64 z] ∧ inI64 z := by
  obtain ⟨z, h1, _, h3⟩ := DataW.trod_int Tryd.underlying3 h
  exact ⟨z, h1, inI64_of h3⟩
set_option maxRecDepth 100000 in
theorem core_order {fuel : Nat} {cs : List Value} {x : DataW H × List MemPlace} (h : DataW.trod enc Tryd.prog W 0 (fun _ => true) true fuel 23 cs = some x) :
    ∃ o : Od, cs = [.int .i64 o.id, .int .i64 o.acc, .int .i64 o.side, .int .i64 o.price, .int .i64 o.qty] ∧ FitOd o := by
  obtain ⟨xs, m, _, hx, hlen, hxl, hf⟩ := DataW.trod_struct Tryd.underlying23 h
  rw [show Tryd.prog.cellsOf 23 = 5 by kernel_rfl] at hlen
  have h0 : DataW.trod enc Tryd.prog W 0 (fun _ => true) true m 3 ((cs.drop 0).take (Tryd.prog.cellsOf 3)) = xs[0]? := hf 0 _ rfl
  have h1 : DataW.trod enc Tryd.prog W 0 (fun _ => true) true m 3 ((cs.drop 1).take (Tryd.prog.cellsOf 3)) = xs[1]? := hf 1 _ rfl
  have h2 : DataW.trod enc Tryd.prog W 0 (fun _ => true) true m 3 ((cs.drop 2).take (Tryd.prog.cellsOf 3)) = xs[2]? := hf 2 _ rfl
  have h3 : DataW.trod enc Tryd.prog W 0 (fun _ => true) true m 3 ((cs.drop 3).take (Tryd.prog.cellsOf 3)) = xs[3]? := hf 3 _ rfl
  have h4 : DataW.trod enc Tryd.prog W 0 (fun _ => true) true m 3 ((cs.drop 4).take (Tryd.prog.cellsOf 3)) = xs[4]? := hf 4 _ rfl
  rw [show Tryd.prog.cellsOf 3 = 1 by kernel_rfl] at h0 h1 h2 h3 h4
  match cs, hlen, xs, hxl with
  | [c0, c1, c2, c3, c4], _, [y0, y1, y2, y3, y4], _ =>
    obtain ⟨z0, e0, i0⟩ := core_int (x := y0) (by simpa using h0)
    obtain ⟨z1, e1, i1⟩ := core_int (x := y1) (by simpa using h1)
    obtain ⟨z2, e2, i2⟩ := core_int (x := y2) (by simpa using h2)
    obtain ⟨z3, e3, i3⟩ := core_int (x := y3) (by simpa using h3)
    obtain ⟨z4, e4, i4⟩ := core_int (x := y4) (by simpa using h4)
    injection e0 with e0 _
    injection e1 with e1 _
    injection e2 with e2 _
    injection e3 with e3 _
    injection e4 with e4 _
    subst e0 e1 e2 e3 e4
    exact ⟨⟨z0, z1, z2, z3, z4⟩, rfl, ⟨i0, i1, i2, i3, i4⟩⟩
theorem core_bool {fuel : Nat} {cs : List Value} {x : DataW H × List MemPlace} (h : DataW.trod enc Tryd.prog W 0 (fun _ => true) true fuel 4 cs = some x) : ∃ z, cs = [.bool z] := by
  obtain ⟨z, h1, _⟩ := DataW.trod_bool Tryd.underlying4 h
  exact ⟨z, h1⟩
set_option maxRecDepth 100000 in
theorem core_cm {fuel : Nat} {cs : List Value} {x : DataW H × List MemPlace} (h : DataW.trod enc Tryd.prog W 0 (fun _ => true) true fuel 25 cs = some x) :
    ∃ c : Cm, cs = [.int .i64 c.kind, .int .i64 c.acc, .int .i64 c.market, .int .i64 c.n, .int .i64 c.o.id, .int .i64 c.o.acc, .int .i64 c.o.side, .int .i64 c.o.price, .int .i64 c.o.qty, .int .i64 c.how, .bool c.reduce] ∧ FitCm c := by
  obtain ⟨xs, m, _, hx, hlen, hxl, hf⟩ := DataW.trod_struct Tryd.underlying25 h
  rw [show Tryd.prog.cellsOf 25 = 11 by kernel_rfl] at hlen
  have h0 : DataW.trod enc Tryd.prog W 0 (fun _ => true) true m 3 ((cs.drop 0).take (Tryd.prog.cellsOf 3)) = xs[0]? := hf 0 _ rfl
  have h1 : DataW.trod enc Tryd.prog W 0 (fun _ => true) true m 3 ((cs.drop 1).take (Tryd.prog.cellsOf 3)) = xs[1]? := hf 1 _ rfl
  have h2 : DataW.trod enc Tryd.prog W 0 (fun _ => true) true m 3 ((cs.drop 2).take (Tryd.prog.cellsOf 3)) = xs[2]? := hf 2 _ rfl
  have h3 : DataW.trod enc Tryd.prog W 0 (fun _ => true) true m 3 ((cs.drop 3).take (Tryd.prog.cellsOf 3)) = xs[3]? := hf 3 _ rfl
  have h4 : DataW.trod enc Tryd.prog W 0 (fun _ => true) true m 23 ((cs.drop 4).take (Tryd.prog.cellsOf 23)) = xs[4]? := hf 4 _ rfl
  have h5 : DataW.trod enc Tryd.prog W 0 (fun _ => true) true m 3 ((cs.drop 9).take (Tryd.prog.cellsOf 3)) = xs[5]? := hf 5 _ rfl
  have h6 : DataW.trod enc Tryd.prog W 0 (fun _ => true) true m 4 ((cs.drop 10).take (Tryd.prog.cellsOf 4)) = xs[6]? := hf 6 _ rfl
  rw [show Tryd.prog.cellsOf 3 = 1 by kernel_rfl] at h0 h1 h2 h3 h5
  rw [show Tryd.prog.cellsOf 23 = 5 by kernel_rfl] at h4
  rw [show Tryd.prog.cellsOf 4 = 1 by kernel_rfl] at h6
  match cs, hlen, xs, hxl with
  | [c0, c1, c2, c3, c4, c5, c6, c7, c8, c9, c10], _, [y0, y1, y2, y3, y4, y5, y6], _ =>
    obtain ⟨z0, e0, i0⟩ := core_int (x := y0) (by simpa using h0)
    obtain ⟨z1, e1, i1⟩ := core_int (x := y1) (by simpa using h1)
    obtain ⟨z2, e2, i2⟩ := core_int (x := y2) (by simpa using h2)
    obtain ⟨z3, e3, i3⟩ := core_int (x := y3) (by simpa using h3)
    obtain ⟨o, e4, i4⟩ := core_order (x := y4) (by simpa using h4)
    obtain ⟨z5, e5, i5⟩ := core_int (x := y5) (by simpa using h5)
    obtain ⟨z6, e6⟩ := core_bool (x := y6) (by simpa using h6)
    simp only [List.cons.injEq, and_true] at e0 e1 e2 e3 e4 e5 e6
    obtain ⟨e40, e41, e42, e43, e44⟩ := e4
    subst e0 e1 e2 e3 e40 e41 e42 e43 e44 e5 e6
    exact ⟨⟨z0, z1, z2, z3, o, z5, z6⟩, rfl, ⟨i0, i1, i2, i3, i4, i5⟩⟩
set_option maxRecDepth 100000 in
theorem opens_command {base : Nat} {v : Value} {d : DataW H} {p : List MemPlace} (hv : Value.okWide Tryd.prog W .any base 25 v) (h : DataW.Trod enc Tryd.prog W 0 (fun _ => true) true 25 v d p) :
    ∃ c : Cm, v = .agg #[.int .i64 c.kind, .int .i64 c.acc, .int .i64 c.market, .int .i64 c.n, .int .i64 c.o.id, .int .i64 c.o.acc, .int .i64 c.o.side, .int .i64 c.o.price, .int .i64 c.o.qty, .int .i64 c.how, .bool c.reduce] ∧ FitCm c := by
  obtain ⟨cs, rfl, _⟩ := okWide_struct Tryd.underlying25 hv
  obtain ⟨fuel, hf⟩ := h
  obtain ⟨o, hcs, hi⟩ := core_cm hf
  refine ⟨o, ?_, hi⟩
  obtain ⟨l⟩ := cs
  simp only [Value.cells] at hcs
  rw [← hcs]
end
end Go.Proofs.YtockodmbhnlheaaDoor
