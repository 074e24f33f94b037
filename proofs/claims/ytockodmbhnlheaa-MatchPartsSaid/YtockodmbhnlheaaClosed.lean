/-
  THE CLOSED FACTS of the rows: those on the program alone, reckoned once by the kernel; and how a row's come together.
-/
import Derived.Test.YtockodmbhnlheaaRows
import Derived.JoinedOf
import Derived.KernelRfl
namespace Go.Proofs.Ytockodmbhnlheaa

/-- the word behind the harness's own: 'cut'. The list of signs is taken off the literal. -/
theorem head_of {P : Program} {l : List Char} (h : P.initOrder = String.ofList l) (hw : behindMainWord (wordsSigns l) = "cut".toList :: (behindMainWord (wordsSigns l)).tail) :
    behindMainWord (wordsSigns P.initOrder.toList) = "cut".toList :: (behindMainWord (wordsSigns l)).tail := by
  rw [h, String.toList_ofList]; exact hw
set_option maxRecDepth 100000 in
theorem closed_head : ∃ r, behindMainWord (wordsSigns Try.prog.initOrder.toList) = "cut".toList :: r := by
  refine ⟨_, head_of (rfl : Try.prog.initOrder = _) ?_⟩
  kernel_rfl
theorem strip_cut (r : List (List Char)) : stripLifts liftWords ("cut".toList :: r) = ([], "cut".toList :: r) := by
  simp [stripLifts, liftWords]
theorem mayEnter_of {P : Program} (h : ∃ r, behindMainWord (wordsSigns P.initOrder.toList) = "cut".toList :: r) (h1 : P.laysLater = false) (h2 : P.bearsReflect = false) (h3 : P.doorFits [] = true) : P.mayEnter = true := by
  obtain ⟨r, h⟩ := h
  unfold Program.mayEnter
  rw [h]
  simp only [strip_cut, h1, h2, h3]
  simp
theorem liftsFinal_of {P : Program} (h : ∃ r, behindMainWord (wordsSigns P.initOrder.toList) = "cut".toList :: r) : P.liftsFinal = false := by
  obtain ⟨r, h⟩ := h
  unfold Program.liftsFinal Program.headLifts
  rw [h]
  simp only [strip_cut]
  simp
theorem make_of {P : Program} (h : ∃ r, behindMainWord (wordsSigns P.initOrder.toList) = "cut".toList :: r) : P.make = some .cut := by
  obtain ⟨r, h⟩ := h
  unfold Program.make
  rw [h]
  simp

theorem closed_laid : laidOutB Try.prog = true := by kernel_rfl
theorem closed_mapsRowed : mapsRowed Try.prog = true := by kernel_rfl
theorem closed_stops : (Try.prog.stops == []) = true := by kernel_rfl
theorem closed_stopKnobs : (Try.prog.stopKnobs == []) = true := by kernel_rfl
theorem closed_plainKeys : (Rows.namesRow.plainKeys == Try.prog.plainKeys) = true := by kernel_rfl
theorem closed_stopsHeard : Try.prog.stopsHeard = true := by kernel_rfl
theorem closed_mayEnter : Try.prog.mayEnter = true := mayEnter_of closed_head (by kernel_rfl) (by kernel_rfl) (by kernel_rfl)
theorem closed_lifted : (Rows.namesRow.lifted == Try.prog.liftsFinal) = true := by rw [liftsFinal_of closed_head]; rfl
theorem closed_make : (Try.prog.make == some Rows.namesRow.make) = true := by rw [make_of closed_head]; rfl

theorem joined_mk (P : Program) (f : FuncId) (fn : Func) (s : ChangeSpec) (c : OpenClaim)
    (h0 : c.wf (OpenSpec.ofChange s) = true)
    (h1 : laidOutB P = true)
    (h2 : mapsRowed P = true)
    (h3 : fn.params.all (P.readableRec ·) = true)
    (h4 : namedTie P c.named s.vars = true)
    (h5 : (c.stops == []) = true)
    (h6 : (P.stops == []) = true)
    (h7 : (c.knobs == []) = true)
    (h8 : (P.stopKnobs == []) = true)
    (h9 : (c.inPlace == P.inPlace f) = true)
    (h10 : (c.unfollowed == P.unfollowed f) = true)
    (h11 : (c.recurses == P.recurses f) = true)
    (h12 : (c.named == P.varsNamed f) = true)
    (h13 : (c.maps == (fn.params.toList ++ s.plain.varTypes P).any (P.mapsRec ·)) = true)
    (h14 : (c.ifaces == (fn.params.toList ++ s.plain.varTypes P).any (P.ifacesRec ·)) = true)
    (h15 : (c.mapsOut == P.mapsAmong fn.resultTypes.toList) = true)
    (h16 : (c.loops == (fn.params.toList ++ s.plain.varTypes P).any (P.loopsFrom ·)) = true)
    (h17 : (c.wideKeys == (fn.params.toList ++ s.plain.varTypes P ++ fn.resultTypes.toList).any (P.wideKeysFrom ·)) = true)
    (h18 : s.vars.all (P.varReadable ·) = true)
    (h19 : fn.resultTypes.all (fun t => P.readableRec t && decide (t < P.types.size)) = true)
    (h20 : (c.ifacesOut == fn.resultTypes.toList.any (P.ifacesRec ·)) = true)
    (h21 : (c.loopsOut == fn.resultTypes.toList.any (P.loopsFrom ·)) = true)
    (h22 : (c.plainKeys == P.plainKeys) = true)
    (h23 : c.shortTexts.isNone = true)
    (h24 : P.stopsHeard = true)
    (h25 : P.mayEnter = true)
    (h26 : (c.lifted == P.liftsFinal) = true)
    (h27 : (P.make == some c.make) = true)
    (h28 : (c.kinds == (if c.domain.isEmpty then [] else fn.params.toList.map fun t => match P.underlying t with | some (.int k) => some k | _ => none)) = true)
    (h29 : (c.pinned == c.pinnedBy) = true)
    (h30 : (c.veiled == (fn.params.toList ++ s.plain.varTypes P ++ fn.resultTypes.toList).any (P.veiledRec ·)) = true)
    (h31 : c.veiledFits P fn.params.toList (fn.params.toList ++ s.plain.varTypes P ++ fn.resultTypes.toList) = true)
    : joinedFacts P f fn s c = true := by
  simp only [joinedFacts, Bool.and_eq_true]
  exact ⟨⟨⟨⟨⟨⟨⟨⟨⟨⟨⟨⟨⟨⟨⟨⟨⟨⟨⟨⟨⟨⟨⟨⟨⟨⟨⟨⟨⟨⟨⟨h0, h1⟩, h2⟩, h3⟩, h4⟩, h5⟩, h6⟩, h7⟩, h8⟩, h9⟩, h10⟩, h11⟩, h12⟩, h13⟩, h14⟩, h15⟩, h16⟩, h17⟩, h18⟩, h19⟩, h20⟩, h21⟩, h22⟩, h23⟩, h24⟩, h25⟩, h26⟩, h27⟩, h28⟩, h29⟩, h30⟩, h31⟩

end Go.Proofs.Ytockodmbhnlheaa
