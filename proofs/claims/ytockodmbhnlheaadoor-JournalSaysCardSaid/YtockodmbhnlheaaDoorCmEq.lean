/-
  Commands, compared as the code compares them.
-/
import Derived.Test.YtockodmbhnlheaaDoorProg
import Derived.Test.YtockodmbhnlheaaDoorApp
import Derived.Test.YtockodmbhnlheaaDoorTextRef
import Derived.Laws.StructEq
namespace Go.Proofs.YtockodmbhnlheaaDoor
open Go.RowKit

theorem fieldsOf_ofS {P : Program} {t : TypeId} {fs : Array Field} (h : P.underlying t = some (.struct fs)) : P.fieldsOf t = fs := by unfold Program.fieldsOf; rw [h]
theorem run_part_intS {P : Program} {t : TypeId} {k : IntKind} (h : P.underlying t = some (.int k)) (cs : Array Value) (off : Nat) (v : Value) (hv : cs[off]? = some v) (w : World) : (part t cs off).run P w = .ok v w := by
  simp [part, isAgg, run_underlying h, Result.andThen, hv]
theorem run_part_bool {P : Program} {t : TypeId} (h : P.underlying t = some .bool) (cs : Array Value) (off : Nat) (v : Value) (hv : cs[off]? = some v) (w : World) : (part t cs off).run P w = .ok v w := by
  simp [part, isAgg, go_sem, run_underlying h, hv]
theorem eqIn_od9 (a b : Od) (w : World) : (Op.equalIn 9999 23 (.agg #[.int .i64 a.id, .int .i64 a.acc, .int .i64 a.side, .int .i64 a.price, .int .i64 a.qty]) (.agg #[.int .i64 b.id, .int .i64 b.acc, .int .i64 b.side, .int .i64 b.price, .int .i64 b.qty])).run Tryd.prog w = .ok (cmdErr.sameOdB a b) w := by
  rw [run_equalIn_struct w 9998 _ _ _ (by rw [fieldsOf_ofS Tryd.underlying23]; exact Tryd.underlying23) (by kernel_rfl), fieldsOf_ofS Tryd.underlying23]
  have hi := Tryd.underlying3
  have p0 : ∀ (x0 x1 x2 x3 x4 : Int) w, (part 3 #[.int .i64 x0, .int .i64 x1, .int .i64 x2, .int .i64 x3, .int .i64 x4] 0).run Tryd.prog w = .ok (.int .i64 x0) w := fun _ _ _ _ _ w => run_part_intS hi _ 0 _ rfl w
  have p1 : ∀ (x0 x1 x2 x3 x4 : Int) w, (part 3 #[.int .i64 x0, .int .i64 x1, .int .i64 x2, .int .i64 x3, .int .i64 x4] 1).run Tryd.prog w = .ok (.int .i64 x1) w := fun _ _ _ _ _ w => run_part_intS hi _ 1 _ rfl w
  have p2 : ∀ (x0 x1 x2 x3 x4 : Int) w, (part 3 #[.int .i64 x0, .int .i64 x1, .int .i64 x2, .int .i64 x3, .int .i64 x4] 2).run Tryd.prog w = .ok (.int .i64 x2) w := fun _ _ _ _ _ w => run_part_intS hi _ 2 _ rfl w
  have p3 : ∀ (x0 x1 x2 x3 x4 : Int) w, (part 3 #[.int .i64 x0, .int .i64 x1, .int .i64 x2, .int .i64 x3, .int .i64 x4] 3).run Tryd.prog w = .ok (.int .i64 x3) w := fun _ _ _ _ _ w => run_part_intS hi _ 3 _ rfl w
  have p4 : ∀ (x0 x1 x2 x3 x4 : Int) w, (part 3 #[.int .i64 x0, .int .i64 x1, .int .i64 x2, .int .i64 x3, .int .i64 x4] 4).run Tryd.prog w = .ok (.int .i64 x4) w := fun _ _ _ _ _ w => run_part_intS hi _ 4 _ rfl w
  have he := fun (x y : Int) w => run_equalIn_int w 9997 3 .i64 .i64 x y hi
  simp only [Op.eqFields]
  rw [if_pos (by decide), if_pos (by decide), if_pos (by decide), if_pos (by decide), if_pos (by decide)]
  simp only [Sem.run_bind, p0, p1, p2, p3, p4, Result.andThen_ok, he, Sem.run_ite, Sem.run_pure]
  rw [show cmdErr.sameOdB a b = (a.id == b.id && (a.acc == b.acc && (a.side == b.side && (a.price == b.price && a.qty == b.qty)))) by unfold cmdErr.sameOdB; rw [Bool.eq_iff_iff]; simp]
  obtain ⟨c_id, h_id⟩ : ∃ c, (a.id == b.id) = c := ⟨_, rfl⟩
  obtain ⟨c_acc, h_acc⟩ : ∃ c, (a.acc == b.acc) = c := ⟨_, rfl⟩
  obtain ⟨c_side, h_side⟩ : ∃ c, (a.side == b.side) = c := ⟨_, rfl⟩
  obtain ⟨c_price, h_price⟩ : ∃ c, (a.price == b.price) = c := ⟨_, rfl⟩
  obtain ⟨c_qty, h_qty⟩ : ∃ c, (a.qty == b.qty) = c := ⟨_, rfl⟩
  simp only [h_id, h_acc, h_side, h_price, h_qty]
  cases c_id <;> cases c_acc <;> cases c_side <;> cases c_price <;> cases c_qty <;> rfl
theorem eqIn_od10 (a b : Od) (w : World) : (Op.equalIn 10000 23 (.agg #[.int .i64 a.id, .int .i64 a.acc, .int .i64 a.side, .int .i64 a.price, .int .i64 a.qty]) (.agg #[.int .i64 b.id, .int .i64 b.acc, .int .i64 b.side, .int .i64 b.price, .int .i64 b.qty])).run Tryd.prog w = .ok (cmdErr.sameOdB a b) w := by
  rw [run_equalIn_struct w 9999 _ _ _ (by rw [fieldsOf_ofS Tryd.underlying23]; exact Tryd.underlying23) (by kernel_rfl), fieldsOf_ofS Tryd.underlying23]
  have hi := Tryd.underlying3
  have p0 : ∀ (x0 x1 x2 x3 x4 : Int) w, (part 3 #[.int .i64 x0, .int .i64 x1, .int .i64 x2, .int .i64 x3, .int .i64 x4] 0).run Tryd.prog w = .ok (.int .i64 x0) w := fun _ _ _ _ _ w => run_part_intS hi _ 0 _ rfl w
  have p1 : ∀ (x0 x1 x2 x3 x4 : Int) w, (part 3 #[.int .i64 x0, .int .i64 x1, .int .i64 x2, .int .i64 x3, .int .i64 x4] 1).run Tryd.prog w = .ok (.int .i64 x1) w := fun _ _ _ _ _ w => run_part_intS hi _ 1 _ rfl w
  have p2 : ∀ (x0 x1 x2 x3 x4 : Int) w, (part 3 #[.int .i64 x0, .int .i64 x1, .int .i64 x2, .int .i64 x3, .int .i64 x4] 2).run Tryd.prog w = .ok (.int .i64 x2) w := fun _ _ _ _ _ w => run_part_intS hi _ 2 _ rfl w
  have p3 : ∀ (x0 x1 x2 x3 x4 : Int) w, (part 3 #[.int .i64 x0, .int .i64 x1, .int .i64 x2, .int .i64 x3, .int .i64 x4] 3).run Tryd.prog w = .ok (.int .i64 x3) w := fun _ _ _ _ _ w => run_part_intS hi _ 3 _ rfl w
  have p4 : ∀ (x0 x1 x2 x3 x4 : Int) w, (part 3 #[.int .i64 x0, .int .i64 x1, .int .i64 x2, .int .i64 x3, .int .i64 x4] 4).run Tryd.prog w = .ok (.int .i64 x4) w := fun _ _ _ _ _ w => run_part_intS hi _ 4 _ rfl w
  have he := fun (x y : Int) w => run_equalIn_int w 9998 3 .i64 .i64 x y hi
  simp only [Op.eqFields]
  rw [if_pos (by decide), if_pos (by decide), if_pos (by decide), if_pos (by decide), if_pos (by decide)]
  simp only [Sem.run_bind, p0, p1, p2, p3, p4, Result.andThen_ok, he, Sem.run_ite, Sem.run_pure]
  rw [show cmdErr.sameOdB a b = (a.id == b.id && (a.acc == b.acc && (a.side == b.side && (a.price == b.price && a.qty == b.qty)))) by unfold cmdErr.sameOdB; rw [Bool.eq_iff_iff]; simp]
  obtain ⟨c_id, h_id⟩ : ∃ c, (a.id == b.id) = c := ⟨_, rfl⟩
  obtain ⟨c_acc, h_acc⟩ : ∃ c, (a.acc == b.acc) = c := ⟨_, rfl⟩
  obtain ⟨c_side, h_side⟩ : ∃ c, (a.side == b.side) = c := ⟨_, rfl⟩
  obtain ⟨c_price, h_price⟩ : ∃ c, (a.price == b.price) = c := ⟨_, rfl⟩
  obtain ⟨c_qty, h_qty⟩ : ∃ c, (a.qty == b.qty) = c := ⟨_, rfl⟩
  simp only [h_id, h_acc, h_side, h_price, h_qty]
  cases c_id <;> cases c_acc <;> cases c_side <;> cases c_price <;> cases c_qty <;> rfl
set_option maxRecDepth 100000 in
theorem eqIn_cm (a b : Cm) (w : World) : (Op.equalIn 10000 25 (.agg #[.int .i64 a.kind, .int .i64 a.acc, .int .i64 a.market, .int .i64 a.n, .int .i64 a.o.id, .int .i64 a.o.acc, .int .i64 a.o.side, .int .i64 a.o.price, .int .i64 a.o.qty, .int .i64 a.how, .bool a.reduce]) (.agg #[.int .i64 b.kind, .int .i64 b.acc, .int .i64 b.market, .int .i64 b.n, .int .i64 b.o.id, .int .i64 b.o.acc, .int .i64 b.o.side, .int .i64 b.o.price, .int .i64 b.o.qty, .int .i64 b.how, .bool b.reduce])).run Tryd.prog w = .ok (eqCm a b) w := by
  rw [run_equalIn_struct w 9999 _ _ _ (by rw [fieldsOf_ofS Tryd.underlying25]; exact Tryd.underlying25) (by kernel_rfl), fieldsOf_ofS Tryd.underlying25]
  have hi := Tryd.underlying3
  have hb := Tryd.underlying4
  have p0 : ∀ (x0 x1 x2 x3 x4 x5 x6 x7 x8 x9 : Int) (y : Bool) w, (part 3 #[.int .i64 x0, .int .i64 x1, .int .i64 x2, .int .i64 x3, .int .i64 x4, .int .i64 x5, .int .i64 x6, .int .i64 x7, .int .i64 x8, .int .i64 x9, .bool y] 0).run Tryd.prog w = .ok (.int .i64 x0) w := fun _ _ _ _ _ _ _ _ _ _ _ w => run_part_intS hi _ 0 _ rfl w
  have p1 : ∀ (x0 x1 x2 x3 x4 x5 x6 x7 x8 x9 : Int) (y : Bool) w, (part 3 #[.int .i64 x0, .int .i64 x1, .int .i64 x2, .int .i64 x3, .int .i64 x4, .int .i64 x5, .int .i64 x6, .int .i64 x7, .int .i64 x8, .int .i64 x9, .bool y] 1).run Tryd.prog w = .ok (.int .i64 x1) w := fun _ _ _ _ _ _ _ _ _ _ _ w => run_part_intS hi _ 1 _ rfl w
  have p2 : ∀ (x0 x1 x2 x3 x4 x5 x6 x7 x8 x9 : Int) (y : Bool) w, (part 3 #[.int .i64 x0, .int .i64 x1, .int .i64 x2, .int .i64 x3, .int .i64 x4, .int .i64 x5, .int .i64 x6, .int .i64 x7, .int .i64 x8, .int .i64 x9, .bool y] 2).run Tryd.prog w = .ok (.int .i64 x2) w := fun _ _ _ _ _ _ _ _ _ _ _ w => run_part_intS hi _ 2 _ rfl w
  have p3 : ∀ (x0 x1 x2 x3 x4 x5 x6 x7 x8 x9 : Int) (y : Bool) w, (part 3 #[.int .i64 x0, .int .i64 x1, .int .i64 x2, .int .i64 x3, .int .i64 x4, .int .i64 x5, .int .i64 x6, .int .i64 x7, .int .i64 x8, .int .i64 x9, .bool y] 3).run Tryd.prog w = .ok (.int .i64 x3) w := fun _ _ _ _ _ _ _ _ _ _ _ w => run_part_intS hi _ 3 _ rfl w
  have p9 : ∀ (x0 x1 x2 x3 x4 x5 x6 x7 x8 x9 : Int) (y : Bool) w, (part 3 #[.int .i64 x0, .int .i64 x1, .int .i64 x2, .int .i64 x3, .int .i64 x4, .int .i64 x5, .int .i64 x6, .int .i64 x7, .int .i64 x8, .int .i64 x9, .bool y] 9).run Tryd.prog w = .ok (.int .i64 x9) w := fun _ _ _ _ _ _ _ _ _ _ _ w => run_part_intS hi _ 9 _ rfl w
  have pb : ∀ (x0 x1 x2 x3 x4 x5 x6 x7 x8 x9 : Int) (y : Bool) w, (part 4 #[.int .i64 x0, .int .i64 x1, .int .i64 x2, .int .i64 x3, .int .i64 x4, .int .i64 x5, .int .i64 x6, .int .i64 x7, .int .i64 x8, .int .i64 x9, .bool y] 10).run Tryd.prog w = .ok (.bool y) w := fun _ _ _ _ _ _ _ _ _ _ _ w => run_part_bool hb _ 10 _ rfl w
  have po : ∀ (x0 x1 x2 x3 x4 x5 x6 x7 x8 x9 : Int) (y : Bool) w, (part 23 #[.int .i64 x0, .int .i64 x1, .int .i64 x2, .int .i64 x3, .int .i64 x4, .int .i64 x5, .int .i64 x6, .int .i64 x7, .int .i64 x8, .int .i64 x9, .bool y] 4).run Tryd.prog w = .ok (.agg #[.int .i64 x4, .int .i64 x5, .int .i64 x6, .int .i64 x7, .int .i64 x8]) w := fun x0 x1 x2 x3 x4 x5 x6 x7 x8 x9 y w => by
    have hz : (sizeOf 23).run Tryd.prog w = .ok 5 w := by kernel_rfl
    simp only [part, isAgg, Sem.run_bind, run_underlying Tryd.underlying23, Result.andThen_ok, Sem.run_pure, if_true, hz]
    rfl
  have he := fun (x y : Int) w => run_equalIn_int w 9998 3 .i64 .i64 x y hi
  have heb := fun (x y : Bool) w => run_equalIn_bool' (w := w) 9998 4 x y hb
  have heo := eqIn_od9 a.o b.o
  simp only [Op.eqFields]
  rw [if_pos (by decide), if_pos (by decide), if_pos (by decide), if_pos (by decide), if_pos (by decide), if_pos (by decide), if_pos (by decide)]
  simp only [Sem.run_bind, p0, p1, p2, p3, p9, pb, po, Result.andThen_ok, he, heb, heo, Sem.run_ite, Sem.run_pure]
  rw [show eqCm a b = (a.kind == b.kind && (a.acc == b.acc && (a.market == b.market && (a.n == b.n && (cmdErr.sameOdB a.o b.o && (a.how == b.how && a.reduce == b.reduce)))))) by unfold eqCm cmdErr.sameOdB; rw [Bool.eq_iff_iff]; simp [and_assoc]]
  obtain ⟨c_kind, h_kind⟩ : ∃ c, (a.kind == b.kind) = c := ⟨_, rfl⟩
  obtain ⟨c_acc, h_acc⟩ : ∃ c, (a.acc == b.acc) = c := ⟨_, rfl⟩
  obtain ⟨c_market, h_market⟩ : ∃ c, (a.market == b.market) = c := ⟨_, rfl⟩
  obtain ⟨c_n, h_n⟩ : ∃ c, (a.n == b.n) = c := ⟨_, rfl⟩
  obtain ⟨c_how, h_how⟩ : ∃ c, (a.how == b.how) = c := ⟨_, rfl⟩
  obtain ⟨c_reduce, h_reduce⟩ : ∃ c, (a.reduce == b.reduce) = c := ⟨_, rfl⟩
  obtain ⟨c_o, h_o⟩ : ∃ c, cmdErr.sameOdB a.o b.o = c := ⟨_, rfl⟩
  simp only [h_kind, h_acc, h_market, h_n, h_how, h_reduce, h_o]
  cases c_kind <;> cases c_acc <;> cases c_market <;> cases c_n <;> cases c_how <;> cases c_reduce <;> cases c_o <;> rfl
theorem run_neq_cm (a b : Cm) (w : World) : (binOp .neq 25 (.agg #[.int .i64 a.kind, .int .i64 a.acc, .int .i64 a.market, .int .i64 a.n, .int .i64 a.o.id, .int .i64 a.o.acc, .int .i64 a.o.side, .int .i64 a.o.price, .int .i64 a.o.qty, .int .i64 a.how, .bool a.reduce]) (.agg #[.int .i64 b.kind, .int .i64 b.acc, .int .i64 b.market, .int .i64 b.n, .int .i64 b.o.id, .int .i64 b.o.acc, .int .i64 b.o.side, .int .i64 b.o.price, .int .i64 b.o.qty, .int .i64 b.how, .bool b.reduce])).run Tryd.prog w = .ok (.bool (!eqCm a b)) w := by
  rw [run_neq_struct, eqIn_cm]; rfl
theorem run_eql_cm (a b : Cm) (w : World) : (binOp .eql 25 (.agg #[.int .i64 a.kind, .int .i64 a.acc, .int .i64 a.market, .int .i64 a.n, .int .i64 a.o.id, .int .i64 a.o.acc, .int .i64 a.o.side, .int .i64 a.o.price, .int .i64 a.o.qty, .int .i64 a.how, .bool a.reduce]) (.agg #[.int .i64 b.kind, .int .i64 b.acc, .int .i64 b.market, .int .i64 b.n, .int .i64 b.o.id, .int .i64 b.o.acc, .int .i64 b.o.side, .int .i64 b.o.price, .int .i64 b.o.qty, .int .i64 b.how, .bool b.reduce])).run Tryd.prog w = .ok (.bool (eqCm a b)) w := by
  rw [run_eql_struct, eqIn_cm]; rfl
theorem run_neq_odT (a b : Od) (w : World) : (binOp .neq 23 (.agg #[.int .i64 a.id, .int .i64 a.acc, .int .i64 a.side, .int .i64 a.price, .int .i64 a.qty]) (.agg #[.int .i64 b.id, .int .i64 b.acc, .int .i64 b.side, .int .i64 b.price, .int .i64 b.qty])).run Tryd.prog w = .ok (.bool (!cmdErr.sameOdB a b)) w := by
  rw [run_neq_struct, eqIn_od10]; rfl
end Go.Proofs.YtockodmbhnlheaaDoor

