/-
  journal.Recover, walked.
-/
import Derived.Test.YtockodmbhnlheaaDoorJPut
namespace Go.Proofs.YtockodmbhnlheaaDoor
open Go.RowKit

theorem recP_step {p r : List UInt8} {l : List Cm} {s : List UInt8} : recP (p :: spl 10 r) l s = if l.length < 60 ∧ (parseOf p).2 = 0 then recP (spl 10 r) (l ++ [(parseOf p).1]) (s ++ p ++ [10]) else (l, s) := by
  obtain ⟨q, r', e⟩ : ∃ q r', spl 10 r = q :: r' := by
    cases h : spl 10 r with
    | nil => exact absurd h (spl_ne 10 r)
    | cons a b => exact ⟨a, b, rfl⟩
  rw [e]; rfl
theorem recP_full {ps : List (List UInt8)} {l : List Cm} {s : List UInt8} (h : ¬ l.length < 60) : recP ps l s = (l, s) := by
  match ps with
  | [] => rfl
  | [_] => rfl
  | p :: q :: r => show (if _ then _ else _) = _; rw [if_neg (fun e => h e.1)]
theorem cmdsP_le : ∀ (ps : List (List UInt8)) (l : List Cm), l.length ≤ 60 → (cmdsP ps l).1.length ≤ 60
  | [], l, h => h
  | [p], l, h => by unfold cmdsP; split <;> simp [h]
  | p :: q :: r, l, h => by
    rw [cmdsP_cons]
    split
    · simp
    · split
      · simp
      · exact cmdsP_le _ _ (by simp; omega)
theorem own_neD {w : World} {base e k n g : Nat} {v : Value} {xs : List Value} {t : TypeId} {cs : Array Value} (h : w.ownsRow base e k v n xs) (hb : Blk w g t cs) (hne : e ≠ t) : v.ownBlock ≠ some g := by
  obtain ⟨-, ⟨rfl, -⟩ | ⟨g', cap, cur, rfl, -, h2, -⟩⟩ := h
  · simp [Value.ownBlock]
  · intro e1
    have e2 : g' = g := by simpa [Value.ownBlock] using e1
    subst e2
    unfold Blk at hb
    rw [h2] at hb
    injection hb with hb
    injection hb with _ hb _
    exact hne hb
theorem own_sepD {w : World} {base e k n base' e' k' n' : Nat} {v v' : Value} {xs xs' : List Value} (h : w.ownsRow base e k v n xs) (h' : w.ownsRow base' e' k' v' n' xs') (hne : e ≠ e') : ∀ j, v'.ownBlock = some j → v.ownBlock ≠ some j := by
  intro j hj
  obtain ⟨-, ⟨rfl, -⟩ | ⟨g', cap, cur, rfl, -, h2, -⟩⟩ := h'
  · simp [Value.ownBlock] at hj
  · have e2 : g' = j := by simpa [Value.ownBlock] using hj
    subst e2
    exact own_neD h (t := e') (cs := cur) h2 hne
theorem own_grownD {w w' : World} {base e k n : Nat} {v : Value} {xs : List Value} {b : Option Nat} (h : w.ownsRow base e k v n xs) (hg : w.grownBy w' b) (hne : ∀ j, b = some j → v.ownBlock ≠ some j) : w'.ownsRow base e k v n xs := by
  obtain ⟨hl, h0 | ⟨g, cap, cur, rfl, h1, h2, h3⟩⟩ := h
  · exact ⟨hl, .inl h0⟩
  · exact ⟨hl, .inr ⟨g, cap, cur, rfl, h1, blk_grown (t := e) (cs := cur) h2 hg (fun e1 => hne g e1 rfl), h3⟩⟩
theorem wpList_strD {P : Program} {w : World} {ops : Array Oper} {rest : List Oper} {o : Oper} {a : Act} {Q : Exit → Act → World → Prop} (hgd : o.guard = none) (s x : Operand) (t u : TypeId)
    (ho : o.op = .call { callee := .builtin .append, args := #[s, x], argTypes := #[t, u] })
    (base e : Nat) (hu : P.underlying u = some .string) (E : Elem P t e 1 1) (hz : ∀ i, P.info? e = some i → i.zero = some (.int .u8 0)) (v : Value) (n : Nat) (xs : List UInt8) (hs : a.eval s = v) (hown : w.ownsRow base e 1 v n (u8s xs))
    (l : List UInt8) (hx : a.eval x = .string (bs l)) (hbytes : n + l.length ≤ 140737488355328) (hbase : base ≤ w.heap.size)
    (h : ∀ v' w', w'.ownsRow base e 1 v' (n + l.length) (u8s (xs ++ l)) → Below base w w' → w.grownBy w' v.ownBlock → wpList P ops Q rest (a.put o.dst v') w') :
    wpList P ops Q (o :: rest) a w := by
  refine wpList_plain hgd fun K hK => ?_
  have := step_strD (ops := ops) (K := K) (Q := Q) (X := True) hgd s x t u ho base e hu E hz v n xs hs hown l hx hbytes hbase (fun v' w' h1 h2 h3 => hK _ _ (h v' w' h1 h2 h3))
  rwa [if_pos (show Region.wanted o (yielded ops a.tmps) = true by simp [Region.wanted, hgd])] at this
def RetRec (w : World) (r : Dsk × List Cm × Int) (e : Ending) (w' : World) : Prop :=
  ∃ v u k, e = .returned (.tuple #[v, u, .int .i64 k]) ∧ r.2.2 = k ∧ OwnDk w' w.heap.size v r.1 ∧ w'.ownsRow w.heap.size 25 11 u r.2.1.length (cmCells r.2.1) ∧ Below w.heap.size w w'
set_option maxHeartbeats 4000000 in
set_option maxRecDepth 100000 in
theorem recover_any (d : Dsk) (A A' : Option Addr) (c c' B : Nat) (w : World) (h : DkR w B A A' c c' d) (hB : B ≤ w.heap.size) (he : Env w) :
    Calls Tryd.prog 16 #[.agg #[.slice A d.safe.length c, .slice A' d.wait.length c']] w (RetRec w (recoverD d)) := by
  have HE := Lib.hid he
  have HR := Lib.hid h
  have HD := Lib.hid (show recoverD d = if dErr d ≠ 0 then (noDsk, [], dErr d) else (⟨(recP (spl 10 d.wait) (cmdsOf d.safe).1 d.safe).2, []⟩, (recP (spl 10 d.wait) (cmdsOf d.safe).1 d.safe).1, 0) from rfl)
  have HOK := Lib.hid (fun hz => (dErr_ok (d := d)).1 hz)
  have hcap := h.s.cap
  have hle := h.s.le
  have hcap' := h.t.cap
  have hle' := h.t.le
  simp only [maxLen] at hcap hcap'
  clear he h
  go_enter Tryd.func16, Tryd.ntmps16
  go_upto_region 1 with (fail)
  refine wp_nameT ?_
  intro w1 hw1
  have X1 : Blk w1 w.heap.size 36 #[.slice A d.safe.length c, .slice A' d.wait.length c'] := by rw [hw1]; exact (Blk.new w _ _).alloc _
  have X2 : Blk w1 (w.heap.size + 1) 36 #[.slice none 0 0, .slice none 0 0] := by rw [hw1]; have := Blk.new (w.alloc (.cells #[.slice A d.safe.length c, .slice A' d.wait.length c'] 36)) 36 #[.slice none 0 0, .slice none 0 0]; simpa using this
  have HB1 : Hid (Below w.heap.size w w1) := by rw [hw1]; exact Lib.hid (((Below.refl _ _).alloc (Nat.le_refl _) _).alloc (by simp) _)
  clear hw1
  obtain ⟨k0, k1⟩ := bl_c2 X1
  go_wp2_with fail
  refine (diskCheck_any d A A' c c' B w1 (HR.out.below (HB1.out.mono hB)) (Nat.le_trans hB HB1.out.size) (HE.out.next HB1.out)).mono ?_
  rintro e w2 ⟨rfl, hb2⟩
  clear k0 k1
  replace X1 := X1.below hb2 X1.lt
  replace X2 := X2.below hb2 X2.lt
  have HB2 := Lib.hid (HB1.out.trans (hb2.mono HB1.out.size))
  clear hb2 HB1
  have hs2 := HB2.out.size
  obtain ⟨k0, k1⟩ := bl_c2 X1
  have hx1 := X1.lt
  have hx2 := X2.lt
  by_cases h0 : dErr d = 0
  rotate_left
  · have HZ := Lib.hid (HD.out.trans (if_pos h0))
    have d0 : (dErr d != 0) = true := by simpa using h0
    clear HD HOK h0
    obtain ⟨⟨m0, m1⟩, f0, f1⟩ := bl_c2f X2
    generalize dErr d = k at HZ d0
    go_wp2_with fail
    refine exit_nameT ?_
    intro Z hZ
    obtain ⟨XZ, hbZ⟩ := set2w X2 HB2.out (Nat.le_succ _) (.slice none 0 0) (.slice none 0 0)
    rw [← hZ] at XZ hbZ
    clear hZ m0 m1 f0 f1
    obtain ⟨z0, z1⟩ := bl_c2 XZ
    refine bodyPost_ret (v := .tuple #[.agg #[.slice none 0 0, .slice none 0 0], .slice none 0 0, .int .i64 k]) (by simp [results, Tryd.results16, go_sem, *]) rfl ?_
    exact ⟨_, _, k, rfl, by rw [HZ.out], by rw [HZ.out]; exact ownDk_zero _ _, by rw [HZ.out]; exact World.ownsRow_nil _ _ _ _, hbZ⟩
  have HZ := Lib.hid (HD.out.trans (if_neg (by omega)))
  obtain ⟨hlen, hok⟩ := HOK.out h0
  rw [h0]
  have HOK2 := Lib.hid hok
  clear HD HOK h0 hok
  have hconv := str_of_bytes (HR.out.s.below (HB2.out.mono hB))
  go_wp2_with fail
  refine (cmds_any d.safe (by omega) w2 (HE.out.next HB2.out)).mono ?_
  rintro e w3 ⟨v6, L, k, rfl, hk, hown6, hb3⟩
  obtain ⟨A6', c6', rfl⟩ := own_shape hown6
  have HK := Lib.hid (show cmdsOf d.safe = (L, k) from hk)
  have hL60 : L.length ≤ 60 := by
    have := cmdsP_le (spl 10 d.safe) [] (by simp)
    have e : cmdsP (spl 10 d.safe) [] = (L, k) := hk
    rw [e] at this; exact this
  have HC3 := Lib.hid (own_mono (base' := w.heap.size) hown6 hs2)
  have HB3 := Lib.hid (HB2.out.trans (hb3.mono hs2))
  clear k0 k1 hconv hk
  replace X1 := X1.below hb3 X1.lt
  replace X2 := X2.below hb3 X2.lt
  have hge6 : ∀ j, (Value.slice A6' L.length c6').ownBlock = some j → w2.heap.size ≤ j := fun j e => (World.ownsRow.lt hown6 j e).1
  have HG6 := Lib.hid hge6
  have hs3 := hb3.size
  clear hb3 hown6 hge6
  obtain ⟨k0, k1⟩ := bl_c2 X1
  go_wp2_with fail
  refine (clone_u8 A d.safe.length c d.safe B w3 (HR.out.s.below (HB3.out.mono hB)) (by omega) (by omega)).mono ?_
  rintro e w4 ⟨v8, rfl, hown8, hb4⟩
  obtain ⟨A8', c8', rfl⟩ := own_shape hown8
  have HC4 := Lib.hid (own_below HC3.out hb4 (Nat.le_refl _))
  have HO4 := Lib.hid (own_mono (base' := w.heap.size) hown8 (by omega))
  have HG8 := Lib.hid (fun j e => (World.ownsRow.lt hown8 j e).1)
  have HB4 := Lib.hid (HB3.out.trans (hb4.mono (by omega)))
  clear k0 k1
  replace X1 := X1.below hb4 X1.lt
  replace X2 := X2.below hb4 X2.lt
  have hs4 := hb4.size
  clear hb4 hown8 HC3
  obtain ⟨k0, k1⟩ := bl_c2 X1
  have hconv := str_of_bytes (HR.out.t.below (HB4.out.mono hB))
  have HX4 := Lib.hid X2
  have HZ0 := Lib.hid (show recoverD d = (⟨(recP (spl 10 d.wait) L d.safe).2, []⟩, (recP (spl 10 d.wait) L d.safe).1, 0) by rw [HZ.out, HK.out])
  clear HZ HK HOK2 HR HG6 HG8 HB2 HB3
  go_wp2_with fail
  clear k0 k1 hconv X1 X2
  go_loopw [6, 8, 9] (fun v6 v8 v9 wr => ∃ (l : List Cm) (s t : List UInt8) (A6 : Option Addr) (c6 : Nat) (A8 : Option Addr) (c8 : Nat), v6 = .slice A6 l.length c6 ∧ v8 = .slice A8 s.length c8 ∧ v9 = .string (bs t) ∧ s.length + t.length ≤ 20000 ∧ l.length ≤ 60 ∧
    Hid (recP (spl 10 t) l s = recP (spl 10 d.wait) L d.safe) ∧ Hid (wr.ownsRow w.heap.size 25 11 (.slice A6 l.length c6) l.length (cmCells l)) ∧ Hid (wr.ownsRow w.heap.size 5 1 (.slice A8 s.length c8) s.length (u8s s)) ∧ Hid (Below w.heap.size w wr) ∧
    Hid (Blk wr (w.heap.size + 1) 36 #[.slice none 0 0, .slice none 0 0])) (fun _ _ v9 _ => match v9 with | .string b => b.size | _ => 0)
  case atStart => exact ⟨L, d.safe, d.wait, A6', c6', A8', c8', rfl, rfl, rfl, by omega, hL60, Lib.hid rfl, HC4, HO4, HB4, HX4⟩
  case round =>
    obtain ⟨l, s, t, A6, c6, A8, c8, rfl, rfl, rfl, ht, hl, HRC, HC, HO, HBr, HXr⟩ := hrel
    clear HC4 HO4 HB4 HX4
    have hsr := HBr.out.size
    by_cases h6 : l.length < 60
    rotate_left
    · have HF := Lib.hid (show recoverD d = (⟨s, []⟩, l, 0) by rw [HZ0.out, ← HRC.out, recP_full h6])
      go_upto_region 13 with (fail)
      refine wp_nameT ?_
      intro wE hwE
      have HXE := Lib.hid (show Blk wE (w.heap.size + 1) 36 #[.slice none 0 0, .slice none 0 0] by rw [hwE]; exact HXr.out)
      have HOE : Hid (wE.ownsRow w.heap.size 5 1 (.slice A8 s.length c8) s.length (u8s s)) := by rw [hwE]; exact Lib.hid HO.out
      have HCE : Hid (wE.ownsRow w.heap.size 25 11 (.slice A6 l.length c6) l.length (cmCells l)) := by rw [hwE]; exact Lib.hid HC.out
      have HBE : Hid (Below w.heap.size w wE) := by rw [hwE]; exact Lib.hid HBr.out
      have HNE := Lib.hid (own_neD HOE.out HXE.out (by decide))
      have HN6 := Lib.hid (own_neD HCE.out HXE.out (by decide))
      clear hwE
      obtain ⟨⟨m0, m1⟩, f0, f1⟩ := bl_c2f HXE.out
      have hxe := HXE.out.lt
      go_wp2_with fail
      refine exit_nameT ?_
      intro Z hZ
      obtain ⟨XZ, hbZ⟩ := set2w HXE.out HBE.out (Nat.le_succ _) (.slice A8 s.length c8) (.slice none 0 0)
      have HOZ := own_far2 (g := w.heap.size + 1) HOE.out HNE.out (.slice A8 s.length c8) (.slice none 0 0)
      have HCZ := own_farT (own_farT HCE.out (p := ⟨w.heap.size + 1, 0, none⟩) HN6.out (.slice A8 s.length c8)) (p := ⟨w.heap.size + 1, 1, none⟩) HN6.out (.slice none 0 0)
      rw [← hZ] at XZ hbZ HOZ HCZ
      clear hZ m0 m1 f0 f1
      obtain ⟨z0, z1⟩ := bl_c2 XZ
      refine bodyPost_ret (v := .tuple #[.agg #[.slice A8 s.length c8, .slice none 0 0], .slice A6 l.length c6, .int .i64 0]) (by simp [results, Tryd.results16, go_sem, *]) rfl ?_
      exact ⟨_, _, 0, rfl, by rw [HF.out], by rw [HF.out]; exact ownDk_mk HOZ (World.ownsRow_nil _ _ _ _), by rw [HF.out]; exact HCZ, hbZ⟩
    go_wp2_with fail
    refine (cut_any t (by omega) wr (HE.out.next HBr.out)).mono ?_
    rintro e w5 ⟨hcut, q, rfl⟩
    have HB5 := Lib.hid (below_drewN HBr.out q)
    have HC5 := Lib.hid (own_drewN HC.out q)
    have HO5 := Lib.hid (own_drewN HO.out q)
    have HX5 := Lib.hid (HXr.out.drewN q)
    have hs5 := HB5.out.size
    clear HC HO HBr HXr
    rcases hcut with ⟨rfl, h1⟩ | ⟨p, r, rfl, h1, h2⟩
    · have HF := Lib.hid (show recoverD d = (⟨s, []⟩, l, 0) by rw [HZ0.out, ← HRC.out, h1]; rfl)
      clear h1
      go_wp2_with fail
      refine (parse_any t (wr.drewN q) (HE.out.next HB5.out)).mono ?_
      rintro e w6 ⟨x, k, rfl, -, hb6⟩
      have HB6 := Lib.hid (HB5.out.trans (hb6.mono hs5))
      have HC6 := Lib.hid (own_below HC5.out hb6 (Nat.le_refl _))
      have HO6 := Lib.hid (own_below HO5.out hb6 (Nat.le_refl _))
      have HX6 := Lib.hid (HX5.out.below hb6 HX5.out.lt)
      have hs6 := HB6.out.size
      clear hb6 HB5 HC5 HO5 HX5
      unfold cmV
      go_upto_region 13 with (fail)
      refine wp_nameT ?_
      intro wE hwE
      have HXE := Lib.hid (show Blk wE (w.heap.size + 1) 36 #[.slice none 0 0, .slice none 0 0] by rw [hwE]; exact (HX6.out.alloc _))
      have HOE : Hid (wE.ownsRow w.heap.size 5 1 (.slice A8 s.length c8) s.length (u8s s)) := by rw [hwE]; exact Lib.hid (World.ownsRow.alloc HO6.out _)
      have HCE : Hid (wE.ownsRow w.heap.size 25 11 (.slice A6 l.length c6) l.length (cmCells l)) := by rw [hwE]; exact Lib.hid (World.ownsRow.alloc HC6.out _)
      have HBE : Hid (Below w.heap.size w wE) := by rw [hwE]; exact Lib.hid (HB6.out.alloc hs6 _)
      have HNE := Lib.hid (own_neD HOE.out HXE.out (by decide))
      have HN6 := Lib.hid (own_neD HCE.out HXE.out (by decide))
      clear hwE
      obtain ⟨⟨m0, m1⟩, f0, f1⟩ := bl_c2f HXE.out
      have hxe := HXE.out.lt
      go_wp2_with fail
      refine exit_nameT ?_
      intro Z hZ
      obtain ⟨XZ, hbZ⟩ := set2w HXE.out HBE.out (Nat.le_succ _) (.slice A8 s.length c8) (.slice none 0 0)
      have HOZ := own_far2 (g := w.heap.size + 1) HOE.out HNE.out (.slice A8 s.length c8) (.slice none 0 0)
      have HCZ := own_farT (own_farT HCE.out (p := ⟨w.heap.size + 1, 0, none⟩) HN6.out (.slice A8 s.length c8)) (p := ⟨w.heap.size + 1, 1, none⟩) HN6.out (.slice none 0 0)
      rw [← hZ] at XZ hbZ HOZ HCZ
      clear hZ m0 m1 f0 f1
      obtain ⟨z0, z1⟩ := bl_c2 XZ
      refine bodyPost_ret (v := .tuple #[.agg #[.slice A8 s.length c8, .slice none 0 0], .slice A6 l.length c6, .int .i64 0]) (by simp [results, Tryd.results16, go_sem, *]) rfl ?_
      exact ⟨_, _, 0, rfl, by rw [HF.out], by rw [HF.out]; exact ownDk_mk HOZ (World.ownsRow_nil _ _ _ _), by rw [HF.out]; exact HCZ, hbZ⟩
    · have HS := Lib.hid (show (if l.length < 60 ∧ (parseOf p).2 = 0 then recP (spl 10 r) (l ++ [(parseOf p).1]) (s ++ p ++ [10]) else (l, s)) = recP (spl 10 d.wait) L d.safe by rw [← HRC.out, h2, recP_step])
      have hr : t.length = p.length + r.length + 1 := by rw [h1, List.length_append, List.length_cons]; omega
      clear h1 h2 HRC
      go_wp2_with fail
      refine (parse_any p (wr.drewN q) (HE.out.next HB5.out)).mono ?_
      rintro e w6 ⟨x, k, rfl, hp, hb6⟩
      have HP := Lib.hid hp
      have HB6 := Lib.hid (HB5.out.trans (hb6.mono hs5))
      have HC6 := Lib.hid (own_below HC5.out hb6 (Nat.le_refl _))
      have HO6 := Lib.hid (own_below HO5.out hb6 (Nat.le_refl _))
      have HX6 := Lib.hid (HX5.out.below hb6 HX5.out.lt)
      have hs6 := HB6.out.size
      clear hb6 HB5 HC5 HO5 HX5 hp
      unfold cmV
      by_cases h5 : k = 0
      rotate_left
      · have HF := Lib.hid (show recoverD d = (⟨s, []⟩, l, 0) by rw [HZ0.out, ← HS.out, HP.out, if_neg (fun e => h5 e.2)])
        have d5 : (k != 0) = true := by simpa using h5
        clear h5
        go_upto_region 13 with (fail)
        refine wp_nameT ?_
        intro wE hwE
        have HXE := Lib.hid (show Blk wE (w.heap.size + 1) 36 #[.slice none 0 0, .slice none 0 0] by rw [hwE]; exact (HX6.out.alloc _))
        have HOE : Hid (wE.ownsRow w.heap.size 5 1 (.slice A8 s.length c8) s.length (u8s s)) := by rw [hwE]; exact Lib.hid (World.ownsRow.alloc HO6.out _)
        have HCE : Hid (wE.ownsRow w.heap.size 25 11 (.slice A6 l.length c6) l.length (cmCells l)) := by rw [hwE]; exact Lib.hid (World.ownsRow.alloc HC6.out _)
        have HBE : Hid (Below w.heap.size w wE) := by rw [hwE]; exact Lib.hid (HB6.out.alloc hs6 _)
        have HNE := Lib.hid (own_neD HOE.out HXE.out (by decide))
        have HN6 := Lib.hid (own_neD HCE.out HXE.out (by decide))
        clear hwE
        obtain ⟨⟨m0, m1⟩, f0, f1⟩ := bl_c2f HXE.out
        have hxe := HXE.out.lt
        go_wp2_with fail
        refine exit_nameT ?_
        intro Z hZ
        obtain ⟨XZ, hbZ⟩ := set2w HXE.out HBE.out (Nat.le_succ _) (.slice A8 s.length c8) (.slice none 0 0)
        have HOZ := own_far2 (g := w.heap.size + 1) HOE.out HNE.out (.slice A8 s.length c8) (.slice none 0 0)
        have HCZ := own_farT (own_farT HCE.out (p := ⟨w.heap.size + 1, 0, none⟩) HN6.out (.slice A8 s.length c8)) (p := ⟨w.heap.size + 1, 1, none⟩) HN6.out (.slice none 0 0)
        rw [← hZ] at XZ hbZ HOZ HCZ
        clear hZ m0 m1 f0 f1
        obtain ⟨z0, z1⟩ := bl_c2 XZ
        refine bodyPost_ret (v := .tuple #[.agg #[.slice A8 s.length c8, .slice none 0 0], .slice A6 l.length c6, .int .i64 0]) (by simp [results, Tryd.results16, go_sem, *]) rfl ?_
        exact ⟨_, _, 0, rfl, by rw [HF.out], by rw [HF.out]; exact ownDk_mk HOZ (World.ownsRow_nil _ _ _ _), by rw [HF.out]; exact HCZ, hbZ⟩
      have HS2 := Lib.hid (show recP (spl 10 r) (l ++ [x]) (s ++ p ++ [10]) = recP (spl 10 d.wait) L d.safe by rw [← HS.out, HP.out, if_pos ⟨h6, h5⟩])
      subst h5
      clear HS HP
      go_upto_region 10 with (fail)
      refine wp_nameT ?_
      intro w7 hw7
      have X7 : Blk w7 w6.heap.size 25 #[.int .i64 x.kind, .int .i64 x.acc, .int .i64 x.market, .int .i64 x.n, .int .i64 x.o.id, .int .i64 x.o.acc, .int .i64 x.o.side, .int .i64 x.o.price, .int .i64 x.o.qty, .int .i64 x.how, .bool x.reduce] := by rw [hw7]; exact Blk.new w6 _ _
      have HB7 : Hid (Below w.heap.size w w7) := by rw [hw7]; exact Lib.hid (HB6.out.alloc hs6 _)
      have HC7 : Hid (w7.ownsRow w.heap.size 25 11 (.slice A6 l.length c6) l.length (cmCells l)) := by rw [hw7]; exact Lib.hid (World.ownsRow.alloc HC6.out _)
      have HO7 : Hid (w7.ownsRow w.heap.size 5 1 (.slice A8 s.length c8) s.length (u8s s)) := by rw [hw7]; exact Lib.hid (World.ownsRow.alloc HO6.out _)
      have HX7 := Lib.hid (show Blk w7 (w.heap.size + 1) 36 #[.slice none 0 0, .slice none 0 0] by rw [hw7]; exact HX6.out.alloc _)
      clear hw7 HB6 HC6 HO6 HX6
      have hs7 := HB7.out.size
      obtain ⟨⟨v0, v1, v2, v3, v4, v5, v6, v7, v8, v9, v10⟩, -⟩ := bl_c11 X7
      go_upto_region 12 with (at_builtin; refine wpList_app rfl _ _ _ rfl w.heap.size 25 11 88 elem_cm (.slice A6 l.length c6) l.length (cmCells l) rfl (World.ownsRow.alloc HC7.out _) (w7.heap.size + 1) (some ⟨w7.heap.size, 0, none⟩) 1 1 (cmCells [x]) rfl (rd_newT _ _ _ 11 rfl rfl _ rfl) (cmCells_one [x]) (by unfold maxLen; omega) (by omega) (by simp; omega) ?_; intro u8 w8 hown8 hbel8 hgr8 hat8; obtain ⟨A6n, c6n, rfl⟩ := own_shape hown8)
      rw [← cmCells_app] at hown8
      have HC8 := Lib.hid hown8
      have HO8 := Lib.hid (own_grownD (World.ownsRow.alloc HO7.out _) hgr8 (own_sepD HO7.out HC7.out (by decide)))
      have HX8 := Lib.hid (blk_grown (HX7.out.alloc _) hgr8 (own_neD HC7.out HX7.out (by decide)))
      have HB8 := Lib.hid ((HB7.out.alloc hs7 _).trans hbel8)
      clear hown8 hbel8 hgr8 hat8 HC7 HO7 HX7 HB7 v0 v1 v2 v3 v4 v5 v6 v7 v8 v9 v10 X7
      have hs8 := HB8.out.size
      go_wp2_with (first
        | (at_builtin; refine wpList_strD rfl _ _ _ _ rfl w.heap.size 5 Tryd.underlying9 elem_u8 zero_u8 (.slice A8 s.length c8) s.length s rfl HO8.out p rfl (by omega) hs8 ?_; intro v9 w9 hown9 hbel9 hgr9; have hs9 := hbel9.size; obtain ⟨A9, c9, rfl⟩ := own_shape hown9)
        | (at_builtin; refine wpList_app rfl _ _ _ rfl w.heap.size 5 1 1 elem_u8 (.slice A9 (s.length + p.length) c9) (s.length + p.length) (u8s (s ++ p)) rfl (World.ownsRow.alloc hown9 _) (w9.heap.size + 1) (some ⟨w9.heap.size, 0, none⟩) 1 1 (u8s [10]) rfl (rd_newT _ _ _ 1 rfl rfl _ rfl) (u8s_one _) (by unfold maxLen; omega) (by omega) (by simp; omega) ?_; intro vA wA hownA hbelA hgrA hatA; obtain ⟨AA, cA, rfl⟩ := own_shape hownA))
      have HOA := Lib.hid (show wA.ownsRow w.heap.size 5 1 (.slice AA (s.length + p.length + 1) cA) (s ++ p ++ [10]).length (u8s (s ++ p ++ [10])) by rw [u8s_app, List.length_append, List.length_append]; exact hownA)
      have HC9 := own_grownD HC8.out hgr9 (own_sepD HC8.out HO8.out (by decide))
      have HCA := Lib.hid (own_grownD (World.ownsRow.alloc HC9 _) hgrA (own_sepD HC9 hown9 (by decide)))
      have HX9 := blk_grown HX8.out hgr9 (own_neD HO8.out HX8.out (by decide))
      have HXA := Lib.hid (blk_grown (HX9.alloc _) hgrA (own_neD hown9 HX9 (by decide)))
      have HBA := Lib.hid (((HB8.out.trans hbel9).alloc (by omega) _).trans hbelA)
      have HCA2 := Lib.hid (show wA.ownsRow w.heap.size 25 11 (.slice A6n (l ++ [x]).length c6n) (l ++ [x]).length (cmCells (l ++ [x])) by rw [List.length_append]; exact HCA.out)
      have HOA2 := Lib.hid (show wA.ownsRow w.heap.size 5 1 (.slice AA (s ++ p ++ [10]).length cA) (s ++ p ++ [10]).length (u8s (s ++ p ++ [10])) by have := HOA.out; rw [List.length_append, List.length_append] at this ⊢; exact this)
      clear hownA hown9 hgr9 hgrA hbel9 hbelA hatA HC9 HX9 HOA HCA
      go_roundw
      case rel => exact ⟨l ++ [x], s ++ p ++ [10], r, A6n, c6n, AA, cA, by rw [List.length_append]; rfl, by rw [List.length_append, List.length_append]; rfl, rfl, by simp; omega, by simp; omega, HS2, HCA2, HOA2, HBA, HXA⟩
      case measure => show (bs r).size < (bs t).size; rw [bs_size, bs_size]; omega
end Go.Proofs.YtockodmbhnlheaaDoor
