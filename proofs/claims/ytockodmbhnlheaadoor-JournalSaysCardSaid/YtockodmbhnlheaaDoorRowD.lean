/-
  FROM A WALK TO A ROW WITH LISTED VARIABLES: the wrap (with the listed variables, and the world's shape); what the walks want of the library's variables (Env); arguments that are strings, bytes, disks.
-/
import Derived.Test.YtockodmbhnlheaaDoorRow
import Derived.Test.YtockodmbhnlheaaDoorBytes
import Derived.Test.YtockodmbhnlheaaDoorJPure
import Derived.Test.YtockodmbhnlheaaDoorTie
import Derived.Test.YtockodmbhnlheaaDoorCards
import Derived.Lib.LaidU8
import Derived.Stop.LaidErr
import Derived.Stop.Joined
import Derived.LaidSub
import Derived.Shelf.Vars
import Derived.Handed
import Derived.HandedShaped
import Derived.Deep.Slices
import Derived.Lay
import Derived.Handy
namespace Go.Proofs.YtockodmbhnlheaaDoor
open Go.ChangeShapes Go.WideShapes Go.ChangeAt Go.RowKit

theorem returns_door {H : Type} {enc : TypeId × Value → H} {a : Assume} {C : Checked} {os : Os} {f : FuncId} {fn : Func} {s : ChangeSpec} {conds : List PathCond} {apart fresh handsOn again : Bool} {X : World → Array Value → Prop}
    (hX : ∀ (w w' : World) (args : Array Value), w.heap = w'.heap → X w args → X w' args)
    (own : ownKnob C.prog.godebug = none) (started : os.Started) (noInit : C.prog.inits.idxOf? f = none) (hfn : C.prog.funcs[f]? = some fn)
    (witness : ∃ (w : World) (tape : Tape) (i : Input), w.os = os ∧ (w.forCall tape i).Shaped C.prog ∧ i.vars = [] ∧ Input.okWide C.prog (w.forCall tape i) .any w.heap.size f i ∧
      ((s.pre enc C.prog fn conds apart (w.forCall tape i).memory i.args ∧ X (w.forCall tape i).memory i.args) ∧ sizedMet enc C.prog fn (OpenSpec.ofChange s) apart (w.forCall tape i).memory i.args) ∧ a.holds C.prog (lone (Frame.enter C.prog f i.args .normal) [] (w.forCall tape i)))
    (contract : ∀ (W : World) (base : Nat) (args : Array Value) (ds gs : List (DataW H)) (before : List MemPlace),
      (∀ (j : Nat) t v, fn.params[j]? = some t → args[j]? = some v → Value.okWide C.prog W .any base t v) →
      DataW.Whole enc C.prog fn.params.toList s.vars apart W args.toList ds gs before →
      conds.all (PathCond.test C.prog ⟨fn.params.toList, ds, s.plain.varTypes C.prog, gs⟩) = true →
      (DataW.weightsEach C.prog (fn.params.toList ++ s.plain.varTypes C.prog) (ds ++ gs)).all (· ≤ reachBytes) = true → X W args → W.ShapedOpen C.prog →
      a.holds C.prog (lone (Frame.enter C.prog f args .normal) [] W) →
      Calls C.prog f args W fun e W' => ∃ v, e = .returned v ∧ s.post enc C.prog fn apart fresh handsOn again W args v W') :
    ReturnsInHanded a C os f .any (fun w args => (s.pre enc C.prog fn conds apart w args ∧ X w args) ∧ sizedMet enc C.prog fn (OpenSpec.ofChange s) apart w args) (s.post enc C.prog fn apart fresh handsOn again) := by
  refine returnsInHanded_of_calls own started noInit witness ?_
  intro w tape i _ hsh _ hok hpre hholds
  obtain ⟨_, _, _, fn', hfn', _, _, _, _, hval⟩ := hok
  have e : fn' = fn := Option.some.inj (hfn'.symm.trans hfn)
  subst e
  obtain ⟨⟨⟨ds, gs, before, hw, hc⟩, hx⟩, hz⟩ := hpre
  have hw' := DataW.Whole.of_heap (w' := w.forCall tape i) (by rfl) hw
  refine (contract (w.forCall tape i) w.heap.size i.args ds gs before hval hw' hc (hz.weights hw) (hX _ _ _ (by rfl) hx) hsh hholds).mono fun e W' ⟨v, he, hp⟩ => ?_
  subst he
  exact ChangeSpec.post_blind hp

theorem var_cells {P : Program} {w : World} {n : String} {g : Nat} {cs : Array Value} (hg : P.globalNamed n = some g) (h : w.var? P n = some cs) : ∃ t fr, w.heap[g]? = some (.cells cs t fr) := by
  unfold World.var? at h
  rw [hg, Option.bind_some] at h
  split at h
  · rename_i c t fr e
    injection h with h
    subst h
    exact ⟨t, fr, e⟩
  · cases h
theorem pow_data : (Rows.laid_internal_strconv_uint64pow10 : DataW Unit) = Lib.tabData .u64 Lib.pow10Tab := by kernel_rfl
theorem name_one (u : TypeId) (h : Tryd.prog.typeName? 3 u = some "*errors.errorString") : u = 162 :=
  typeName_ptr_named (nm := "errors.errorString") (by as_aux_lemma => kernel_rfl) (by as_aux_lemma => kernel_rfl) (by as_aux_lemma => decide) u h
set_option maxRecDepth 100000 in
theorem sentinel_of {n : String} {text : List UInt8} {g : Nat} {l : List (String × DataW Unit)} {W : World} (hL : laidMet Tryd.prog l W) (hm : l.filter (fun x => x.1 == n) = [(n, .iface "*errors.errorString" (.ptr (.agg [.lit (.string text)])))])
    (hg : Tryd.prog.globalNamed n = some g) (ht : (Tryd.prog.globals[g]?).map (·.type) = some 81) : ∃ ev, W.cell? ⟨g, 0, none⟩ = some ev ∧ (ev = .nilIface ∨ ∃ te pe, ev = .iface te pe) := by
  have h1 := hL.filter (fun x => x.1 == n)
  rw [hm] at h1
  obtain ⟨a, s, hv, -⟩ := laid_sentinel h1 hg ht Tryd.underlying81 name_one Tryd.underlying162 Tryd.underlying164 rfl rfl Tryd.underlying9 (by kernel_rfl) (by kernel_rfl)
  exact ⟨_, World.var?_cell hg hv 0, .inr ⟨_, _, rfl⟩⟩
set_option maxRecDepth 100000 in
theorem env_of {l : List (String × DataW Unit)} {W : World} (hL : laidMet Tryd.prog l W) (hS : W.ShapedOpen Tryd.prog)
    (h1 : ("internal/strconv.uint64pow10", Rows.laid_internal_strconv_uint64pow10) ∈ l)
    (h2 : l.filter (fun x => x.1 == "strconv.ErrSyntax") = [("strconv.ErrSyntax", Rows.laid_strconv_ErrSyntax)]) (h3 : l.filter (fun x => x.1 == "strconv.ErrRange") = [("strconv.ErrRange", Rows.laid_strconv_ErrRange)]) : Env W := by
  refine ⟨?_, sentinel_of hL h2 (by kernel_rfl) (by kernel_rfl), sentinel_of hL h3 (by kernel_rfl) (by kernel_rfl), ?_, ?_⟩
  · obtain ⟨g, t, cs, fuel, p, hg, ht, hv, hd⟩ := Lib.laidMet.reads hL h1
    obtain rfl := Option.some.inj ((show Tryd.prog.globalNamed "internal/strconv.uint64pow10" = some 5 by kernel_rfl).symm.trans hg)
    obtain rfl := Option.some.inj ((show (Tryd.prog.globals[5]?).map (·.type) = some 154 by kernel_rfl).symm.trans ht)
    rw [pow_data] at hd
    have hc := Lib.cells_of_tab Tryd.underlying154 Tryd.underlying116 (by kernel_rfl) (by kernel_rfl) hd
    obtain ⟨l0⟩ := cs
    simp only at hc
    subst hc
    exact var_cells hg hv
  · exact cell_of_shapedOpen_int (zero := #[.int .i64 0]) hS (of_decide_eq_true (by kernel_rfl)) (by kernel_rfl) (by kernel_rfl) (by kernel_rfl) (by kernel_rfl) Tryd.underlying3
  · have h7 : ∃ n, 8 ≤ n ∧ Tryd.prog.globals.size ≤ n ∧ n < (begin Tryd.prog (fun _ _ => 0) default).world.heap.size := by
      first
      | exact ⟨8, by decide, by decide +kernel, by decide +kernel⟩
      | exact ⟨15, by decide, by decide +kernel, by decide +kernel⟩
    obtain ⟨n, h8, hg, hn⟩ := h7
    obtain ⟨o, _, h, _⟩ := hS.2 n hg hn
    have := (Array.getElem?_eq_some_iff.1 h).1
    omega

section
variable {H : Type} {enc : TypeId × Value → H} {W : World}
set_option maxRecDepth 100000 in
theorem opens_str {base : Nat} {v : Value} {d : DataW H} {p : List MemPlace} (hv : Value.okWide Tryd.prog W .any base 9 v) (h : DataW.Trod enc Tryd.prog W 0 (fun _ => true) true 9 v d p) : ∃ s : List UInt8, v = .string (bs s) := by
  obtain ⟨s, rfl⟩ := okWide_string Tryd.underlying9 hv
  exact ⟨s.data.toList, by rw [bs_eta]⟩
theorem core_bytes {fuel : Nat} {cs : List Value} {x : DataW H × List MemPlace} (h : DataW.trod enc Tryd.prog W 0 (fun _ => true) true fuel 33 cs = some x)
    (hs : ∀ y ∈ x.1.weights Tryd.prog 33, y ≤ reachBytes) :
    ∃ A n c l, cs = [.slice A n c] ∧ Rd W W.heap.size 1 A n c (u8s l) ∧ c ≤ reachBytes := by
  rcases open_ints Tryd.underlying33 Tryd.underlying5 (by kernel_rfl) h with ⟨hcs, hx⟩ | ⟨ad, n, c, zs, hcs, _, hl, hm, hz, hx, hcell, hwz⟩
  · exact ⟨none, 0, 0, [], hcs, Rd.none_ _ _ _, by simp⟩
  · simp only [if_true] at hz
    have hu : ∀ z ∈ zs, 0 ≤ z ∧ z ≤ 255 := fun z h0 => by simpa [Lit.wf, IntKind.min, IntKind.max, IntKind.signed, IntKind.bits] using hwz z h0
    refine ⟨some ad, n, c, (zs.take n).map (fun z => UInt8.ofNat z.toNat), hcs, ⟨by simp [u8s]; omega, hl, hm, nofun, fun hn => ?_⟩, ?_⟩
    · have h0 := hcell 0 (by omega)
      rw [show ad.add 0 = ad by simp [Addr.add]] at h0
      have hsp : ad.spot = none := spot_of_cell h0
      refine ⟨ad.block, ad.off, ?_, lt_of_cell h0, fun j u hj => ?_⟩
      · obtain ⟨b, o, sp⟩ := ad; simp only at hsp; subst hsp; rfl
      · have hj' : j < n := by have := (List.getElem?_eq_some_iff.1 hj).1; simp [u8s] at this; omega
        rw [add_of_cell hsp (hcell j (by omega))]
        simp [u8s, hj'] at hj
        obtain ⟨z, hz', rfl⟩ := hj
        have h9 := hu z (List.mem_of_getElem? hz')
        rw [List.getD, hz']
        simp only [Option.getD_some]
        congr 2
        omega
    · subst hx
      have hb := hs (((lits .u8 (zs.take n) : List (DataW H)).length + (lits .u8 (zs.drop n) : List (DataW H)).length) * 1) (by
        simp only [DataW.weights, Tryd.underlying33]
        rw [show Tryd.prog.bytesOf 5 = 1 by kernel_rfl]
        simp)
      simp [lits] at hb
      omega
set_option maxRecDepth 100000 in
theorem core_disk {fuel : Nat} {cs : List Value} {x : DataW H × List MemPlace} (h : DataW.trod enc Tryd.prog W 0 (fun _ => true) true fuel 36 cs = some x)
    (hs : ∀ y ∈ x.1.weights Tryd.prog 36, y ≤ reachBytes) :
    ∃ (D : Dsk) (A A' : Option Addr) (c c' : Nat), cs = [.slice A D.safe.length c, .slice A' D.wait.length c'] ∧ Rd W W.heap.size 1 A D.safe.length c (u8s D.safe) ∧ Rd W W.heap.size 1 A' D.wait.length c' (u8s D.wait) ∧ c ≤ reachBytes ∧ c' ≤ reachBytes := by
  obtain ⟨xs, m, _, hx, hlen, hxl, hf⟩ := DataW.trod_struct Tryd.underlying36 h
  rw [show Tryd.prog.cellsOf 36 = 2 by kernel_rfl] at hlen
  have h0 : DataW.trod enc Tryd.prog W 0 (fun _ => true) true m 33 ((cs.drop 0).take (Tryd.prog.cellsOf 33)) = xs[0]? := hf 0 _ rfl
  have h1 : DataW.trod enc Tryd.prog W 0 (fun _ => true) true m 33 ((cs.drop 1).take (Tryd.prog.cellsOf 33)) = xs[1]? := hf 1 _ rfl
  rw [show Tryd.prog.cellsOf 33 = 1 by kernel_rfl] at h0 h1
  match cs, hlen, xs, hxl with
  | [c0, c1], _, [y0, y1], _ =>
    have hs0 : ∀ y ∈ y0.1.weights Tryd.prog 33, y ≤ reachBytes := by
      intro y hy
      refine hs y ?_
      subst hx
      simp only [DataW.weights, Tryd.underlying36]
      simp [DataW.weightsEach, hy]
    have hs1 : ∀ y ∈ y1.1.weights Tryd.prog 33, y ≤ reachBytes := by
      intro y hy
      refine hs y ?_
      subst hx
      simp only [DataW.weights, Tryd.underlying36]
      simp [DataW.weightsEach, hy]
    obtain ⟨A, n, c, L, e0, r0, s0⟩ := core_bytes (x := y0) (by simpa using h0) hs0
    obtain ⟨A', n', c', L', e1, r1, s1⟩ := core_bytes (x := y1) (by simpa using h1) hs1
    injection e0 with e0 _
    injection e1 with e1 _
    subst e0 e1
    obtain rfl := r0.ofU8
    obtain rfl := r1.ofU8
    exact ⟨⟨L, L'⟩, A, A', c, c', rfl, r0, r1, s0, s1⟩
set_option maxRecDepth 100000 in
theorem opens_disk {base : Nat} {v : Value} {d : DataW H} {p : List MemPlace} (hv : Value.okWide Tryd.prog W .any base 36 v) (h : DataW.Trod enc Tryd.prog W 0 (fun _ => true) true 36 v d p)
    (hs : ∀ x ∈ d.weights Tryd.prog 36, x ≤ reachBytes) :
    ∃ (D : Dsk) (A : Option Addr) (c : Nat) (A' : Option Addr) (c' : Nat), v = .agg #[.slice A D.safe.length c, .slice A' D.wait.length c'] ∧ Rd W W.heap.size 1 A D.safe.length c (u8s D.safe) ∧ Rd W W.heap.size 1 A' D.wait.length c' (u8s D.wait) := by
  obtain ⟨cs, rfl, _⟩ := okWide_struct Tryd.underlying36 hv
  obtain ⟨fuel, hf⟩ := h
  obtain ⟨D, A, A', c, c', hcs, r, q, -⟩ := core_disk hf hs
  refine ⟨D, A, c, A', c', ?_, r, q⟩
  obtain ⟨l⟩ := cs
  simp only [Value.cells] at hcs
  rw [← hcs]
end
end Go.Proofs.YtockodmbhnlheaaDoor
