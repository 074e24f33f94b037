/-
  CHAPTER 9: a disk that reads; journal.Check, Sync, Crash, walked; SameDisk.
-/
import Derived.Test.YtockodmbhnlheaaDoorJCmds
import Derived.Deep.RegionHeld3
namespace Go.Proofs.YtockodmbhnlheaaDoor
open Go.RowKit

structure DkR (w : World) (B : Nat) (A A' : Option Addr) (c c' : Nat) (d : Dsk) : Prop where
  s : Rd w B 1 A d.safe.length c (u8s d.safe)
  t : Rd w B 1 A' d.wait.length c' (u8s d.wait)
theorem DkR.below {w w' : World} {B c c' : Nat} {A A' : Option Addr} {d : Dsk} (h : DkR w B A A' c c' d) (hb : Below B w w') : DkR w' B A A' c c' d := ⟨h.s.below hb, h.t.below hb⟩
theorem DkR.up {w : World} {B B' c c' : Nat} {A A' : Option Addr} {d : Dsk} (h : DkR w B A A' c c' d) (hB : B ≤ B') : DkR w B' A A' c c' d := ⟨h.s.up hB, h.t.up hB⟩
/-- a disk of the call's own. -/
def OwnDk (w : World) (base : Nat) (v : Value) (d : Dsk) : Prop := ∃ A c A' c', v = .agg #[.slice A d.safe.length c, .slice A' d.wait.length c'] ∧ w.ownsRow base 5 1 (.slice A d.safe.length c) d.safe.length (u8s d.safe) ∧ w.ownsRow base 5 1 (.slice A' d.wait.length c') d.wait.length (u8s d.wait)
def RetDsk (w : World) (r : Dsk × Int) (e : Ending) (w' : World) : Prop := ∃ v k, e = .returned (.tuple #[v, .int .i64 k]) ∧ r.2 = k ∧ OwnDk w' w.heap.size v r.1 ∧ Below w.heap.size w w'
theorem ownDk_zero (w : World) (base : Nat) : OwnDk w base (.agg #[.slice none 0 0, .slice none 0 0]) noDsk := ⟨none, 0, none, 0, rfl, World.ownsRow_nil _ _ _ _, World.ownsRow_nil _ _ _ _⟩
theorem OwnDk.open_ {w : World} {base : Nat} {v : Value} {d : Dsk} (h : OwnDk w base v d) : ∃ A c A' c', v = .agg #[.slice A d.safe.length c, .slice A' d.wait.length c'] ∧ DkR w w.heap.size A A' c c' d := by
  obtain ⟨A, c, A', c', rfl, h1, h2⟩ := h
  exact ⟨A, c, A', c', rfl, Rd.of_own h1, Rd.of_own h2⟩

theorem bl_c2f {w : World} {g : Nat} {t : TypeId} {a b : Value} (h : Blk w g t #[a, b]) : (w.cell? ⟨g, 0, none⟩ = some a ∧ w.cell? ⟨g, 1, none⟩ = some b) ∧ w.frozen? ⟨g, 0, none⟩ = false ∧ w.frozen? ⟨g, 1, none⟩ = false := ⟨⟨h.cell 0, h.cell 1⟩, h.frozen 0, h.frozen 1⟩
theorem set2w {w W : World} {g : Nat} {t : TypeId} {c0 c1 : Value} (h : Blk W g t #[c0, c1]) (hb : Below w.heap.size w W) (hg : w.heap.size ≤ g) (a0 a1 : Value) :
    Blk ((W.setCell ⟨g, 0, none⟩ a0).setCell ⟨g, 1, none⟩ a1) g t #[a0, a1] ∧ Below w.heap.size w ((W.setCell ⟨g, 0, none⟩ a0).setCell ⟨g, 1, none⟩ a1) := by
  constructor
  · have h1 := ((h.set_ 0 a0).set_ 1 a1)
    simp only [List.setIfInBounds_toArray, List.set_cons_zero, List.set_cons_succ] at h1
    exact h1
  · iterate 2 (refine Below.setCell ?_ hg _)
    exact hb
theorem own_far2 {W : World} {base g n : Nat} {v : Value} {xs : List Value} (h : W.ownsRow base 5 1 v n xs) (hg : v.ownBlock ≠ some g) (a0 a1 : Value) : ((W.setCell ⟨g, 0, none⟩ a0).setCell ⟨g, 1, none⟩ a1).ownsRow base 5 1 v n xs :=
  own_farT (own_farT h hg a0) hg a1
set_option maxHeartbeats 1000000 in
set_option maxRecDepth 100000 in
theorem diskCheck_any (d : Dsk) (A A' : Option Addr) (c c' B : Nat) (w : World) (h : DkR w B A A' c c' d) (hB : B ≤ w.heap.size) (he : Env w) :
    Calls Tryd.prog 22 #[.agg #[.slice A d.safe.length c, .slice A' d.wait.length c']] w fun e w' => e = .returned (.int .i64 (dErr d)) ∧ Below w.heap.size w w' := by
  have HE := Lib.hid he
  have HR := Lib.hid h
  have hcap := h.s.cap
  have hle := h.s.le
  have hcap' := h.t.cap
  have hle' := h.t.le
  simp only [maxLen] at hcap hcap'
  have HD := Lib.hid (show dErr d = if 20000 < d.safe.length ∨ 20000 - (d.safe.length : Int) < d.wait.length then 2 else (cmdsOf d.safe).2 from rfl)
  clear he h
  go_enter Tryd.func22, Tryd.ntmps22
  go_upto_region 1 with (fail)
  refine wp_nameT ?_
  intro w1 hw1
  have X1 : Blk w1 w.heap.size 36 #[.slice A d.safe.length c, .slice A' d.wait.length c'] := by rw [hw1]; exact Blk.new w _ _
  have HB1 : Hid (Below w.heap.size w w1) := by rw [hw1]; exact Lib.hid ((Below.refl _ _).alloc (Nat.le_refl _) _)
  clear hw1
  have hconv := str_of_bytes (HR.out.s.below (HB1.out.mono hB))
  obtain ⟨k0, k1⟩ := bl_c2 X1
  by_cases h1 : 20000 < d.safe.length
  · have HZ := Lib.hid (HD.out.trans (if_pos (.inl h1)))
    clear HD hconv
    go_wp2_with fail
    go_ret
    exact ⟨ret_iT HZ.out.symm, HB1.out⟩
  · by_cases h2 : 20000 - (d.safe.length : Int) < d.wait.length
    · have HZ := Lib.hid (HD.out.trans (if_pos (.inr h2)))
      clear HD hconv
      go_wp2_with fail
      go_ret
      exact ⟨ret_iT HZ.out.symm, HB1.out⟩
    · have HZ := Lib.hid (HD.out.trans (if_neg (by rintro (h | h) <;> omega)))
      clear HD
      go_wp2_with fail
      refine (cmds_any d.safe (by omega) w1 (HE.out.next HB1.out)).mono ?_
      rintro e w2 ⟨v, L, k, rfl, hk, -, hb2⟩
      have HK := Lib.hid hk
      have HB2 := Lib.hid (HB1.out.trans (hb2.mono HB1.out.size))
      clear hb2 hk hconv
      go_wp2_with fail
      go_ret
      exact ⟨ret_iT (by rw [HZ.out, HK.out]), HB2.out⟩

theorem diskCheck_at {n n' : Nat} (d : Dsk) (A A' : Option Addr) (c c' B : Nat) (w : World) (h : DkR w B A A' c c' d) (hB : B ≤ w.heap.size) (he : Env w) (hn : d.safe.length = n) (hn' : d.wait.length = n') :
    Calls Tryd.prog 22 #[.agg #[.slice A n c, .slice A' n' c']] w fun e w' => e = .returned (.int .i64 (dErr d)) ∧ Below w.heap.size w w' := by
  subst hn hn'; exact diskCheck_any d A A' c c' B w h hB he
theorem ownDk_mk {w : World} {base n n' : Nat} {A A' : Option Addr} {c c' : Nat} {s t : List UInt8} (h : w.ownsRow base 5 1 (.slice A n c) n (u8s s)) (h' : w.ownsRow base 5 1 (.slice A' n' c') n' (u8s t)) : OwnDk w base (.agg #[.slice A n c, .slice A' n' c']) ⟨s, t⟩ := by
  have e : n = s.length := by have := h.1; simpa [u8s] using this.symm
  have e' : n' = t.length := by have := h'.1; simpa [u8s] using this.symm
  subst e e'
  exact ⟨A, c, A', c', rfl, h, h'⟩
set_option maxHeartbeats 1000000 in
set_option maxRecDepth 100000 in
theorem sameDisk_any (d f : Dsk) (A A' E E' : Option Addr) (c c' k k' B B' : Nat) (w : World) (h : DkR w B A A' c c' d) (g : DkR w B' E E' k k' f) (hB : B ≤ w.heap.size) (hB' : B' ≤ w.heap.size) :
    Calls Tryd.prog 14 #[.agg #[.slice A d.safe.length c, .slice A' d.wait.length c'], .agg #[.slice E f.safe.length k, .slice E' f.wait.length k']] w fun e w' => e = .returned (.bool (sameDsk d f)) ∧ Below w.heap.size w w' := by
  have HR := Lib.hid h
  have HG := Lib.hid g
  have HS := Lib.hid (show sameDsk d f = (eqU d.safe f.safe && eqU d.wait f.wait) by unfold sameDsk eqU; rw [Bool.eq_iff_iff]; simp)
  clear h g
  go_enter Tryd.func14, Tryd.ntmps14
  go_upto_region 1 with (fail)
  refine wp_nameT ?_
  intro w1 hw1
  have X1 : Blk w1 w.heap.size 36 #[.slice A d.safe.length c, .slice A' d.wait.length c'] := by rw [hw1]; exact (Blk.new w _ _).alloc _
  have X2 : Blk w1 (w.heap.size + 1) 36 #[.slice E f.safe.length k, .slice E' f.wait.length k'] := by rw [hw1]; have := Blk.new (w.alloc (.cells #[.slice A d.safe.length c, .slice A' d.wait.length c'] 36)) 36 #[.slice E f.safe.length k, .slice E' f.wait.length k']; simpa using this
  have HB1 : Hid (Below w.heap.size w w1) := by rw [hw1]; exact Lib.hid (((Below.refl _ _).alloc (Nat.le_refl _) _).alloc (by simp) _)
  clear hw1
  obtain ⟨k0, k1⟩ := bl_c2 X1
  obtain ⟨l0, l1⟩ := bl_c2 X2
  go_wp2_with fail
  refine (equal_u8 A E d.safe.length c f.safe.length k d.safe f.safe B B' w1 (HR.out.s.below (HB1.out.mono hB)) (HG.out.s.below (HB1.out.mono hB'))).mono ?_
  rintro e w2 ⟨rfl, q, rfl⟩
  have HB2 := Lib.hid (below_drewN HB1.out q)
  rcases bool_csU (eqU d.safe f.safe) with hp | hp
  · have HS1 := Lib.hid (show sameDsk d f = eqU d.wait f.wait by rw [HS.out, hp]; rfl)
    rw [hp]
    clear hp HS
    go_wp2_with fail
    refine (equal_u8 A' E' d.wait.length c' f.wait.length k' d.wait f.wait B B' (w1.drewN q) (HR.out.t.below (HB2.out.mono hB)) (HG.out.t.below (HB2.out.mono hB'))).mono ?_
    rintro e w3 ⟨rfl, q', rfl⟩
    have HB3 := Lib.hid (below_drewN HB2.out q')
    go_wp2_with fail
    go_ret
    exact ⟨ret_bb (by rw [HS1.out]), (World.drewN_drewN w1 q q') ▸ HB3.out⟩
  · have HS1 := Lib.hid (show sameDsk d f = false by rw [HS.out, hp]; rfl)
    rw [hp]
    clear hp HS
    go_wp2_with fail
    go_ret
    exact ⟨ret_bb (by rw [HS1.out]), HB2.out⟩

set_option maxHeartbeats 2000000 in
set_option maxRecDepth 100000 in
theorem sync_any (d : Dsk) (A A' : Option Addr) (c c' B : Nat) (w : World) (h : DkR w B A A' c c' d) (hB : B ≤ w.heap.size) (he : Env w) :
    Calls Tryd.prog 13 #[.agg #[.slice A d.safe.length c, .slice A' d.wait.length c']] w (RetDsk w (syncD d)) := by
  have HE := Lib.hid he
  have HR := Lib.hid h
  have HD := Lib.hid (show syncD d = if dErr d ≠ 0 then (noDsk, dErr d) else if dErr ⟨d.safe ++ d.wait, []⟩ ≠ 0 then (noDsk, dErr ⟨d.safe ++ d.wait, []⟩) else (⟨d.safe ++ d.wait, []⟩, 0) from rfl)
  have HOK := Lib.hid (fun hz => (dErr_ok (d := d)).1 hz)
  clear he h
  go_enter Tryd.func13, Tryd.ntmps13
  go_upto_region 1 with (fail)
  refine wp_nameT ?_
  intro w1 hw1
  have X1 : Blk w1 w.heap.size 36 #[.slice A d.safe.length c, .slice A' d.wait.length c'] := by rw [hw1]; exact (Blk.new w _ _).alloc _
  have X2 : Blk w1 (w.heap.size + 1) 36 #[.slice none 0 0, .slice none 0 0] := by rw [hw1]; have := Blk.new (w.alloc (.cells #[.slice A d.safe.length c, .slice A' d.wait.length c'] 36)) 36 #[.slice none 0 0, .slice none 0 0]; simpa using this
  have HB1 : Hid (Below w.heap.size w w1) := by rw [hw1]; exact Lib.hid (((Below.refl _ _).alloc (Nat.le_refl _) _).alloc (by simp) _)
  clear hw1
  obtain ⟨k0, k1⟩ := bl_c2 X1
  go_wp2_with fail
  refine (diskCheck_any d A A' c c' B w1 (HR.out.below (HB1.out.mono hB)) (Nat.le_trans hB HB1.out.size) (HE.out.next HB1.out)).mono ?_
  rintro e w2 ⟨rfl, hb2⟩
  clear k0 k1
  replace X1 := X1.below hb2 X1.lt
  replace X2 := X2.below hb2 X2.lt
  have HB2 := Lib.hid (HB1.out.trans (hb2.mono HB1.out.size))
  clear hb2 HB1
  obtain ⟨k0, k1⟩ := bl_c2 X1
  obtain ⟨⟨m0, m1⟩, f0, f1⟩ := bl_c2f X2
  by_cases h0 : dErr d = 0
  rotate_left
  · have HZ := Lib.hid (HD.out.trans (if_pos h0))
    have d0 : (dErr d != 0) = true := by simpa using h0
    clear HD HOK h0
    generalize dErr d = k at HZ d0
    go_wp2_with fail
    refine exit_nameT ?_
    intro Z hZ
    obtain ⟨XZ, hbZ⟩ := set2w X2 HB2.out (Nat.le_succ _) (.slice none 0 0) (.slice none 0 0)
    rw [← hZ] at XZ hbZ
    clear hZ m0 m1 f0 f1
    obtain ⟨z0, z1⟩ := bl_c2 XZ
    refine bodyPost_ret (v := .tuple #[.agg #[.slice none 0 0, .slice none 0 0], .int .i64 k]) (by simp [results, Tryd.results13, go_sem, *]) rfl ?_
    exact ⟨_, k, rfl, by rw [HZ.out], by rw [HZ.out]; exact ownDk_zero _ _, hbZ⟩
  have HZ := Lib.hid (HD.out.trans (if_neg (by omega)))
  obtain ⟨hlen, -⟩ := HOK.out h0
  rw [h0]
  clear HD HOK h0
  go_upto_region 4 with (fail)
  have hx1 := X1.lt
  have hx2 := X2.lt
  go_wp2_with fail
  refine calls_nameT ?_
  intro w3 hw3
  have hb3 : Below w2.heap.size w2 w3 := by rw [hw3]; exact (Below.refl _ _).alloc (Nat.le_refl _) _
  have Y3 : Blk w3 w2.heap.size 33 #[.slice A d.safe.length c, .slice A' d.wait.length c'] := by rw [hw3]; exact Blk.new w2 _ _
  clear hw3 k0 k1 m0 m1 f0 f1
  have HB3 := Lib.hid (HB2.out.trans (hb3.mono HB2.out.size))
  replace X2 := X2.below hb3 hx2
  have hs3 := HB3.out.size
  obtain ⟨k0, k1⟩ := bl_c2 Y3
  refine (concat_u8 A A' d.safe.length c d.wait.length c' d.safe d.wait B w3 (HR.out.s.below (HB3.out.mono hB)) (HR.out.t.below (HB3.out.mono hB)) (Nat.le_trans hB hs3) w2.heap.size Y3.lt k0 k1 (by omega)).mono ?_
  rintro e w4 ⟨v, rfl, hown, hb4⟩
  obtain ⟨A2, c2, rfl⟩ := own_shape hown
  have HO4 := Lib.hid hown
  have HB4 := Lib.hid (HB3.out.trans (hb4.mono hs3))
  have hx2' := X2.lt
  replace X2 := X2.below hb4 X2.lt
  have hs4 := HB4.out.size
  have hs4' := hb4.size
  clear hown hb4 hb3 Y3 k0 k1 HB3 HB2 X1
  go_upto_region 5 with (fail)
  refine wp_nameT ?_
  intro w5 hw5
  have X5 : Blk w5 w4.heap.size 36 #[.slice A2 (d.safe.length + d.wait.length) c2, .slice none 0 0] := by rw [hw5]; exact Blk.new w4 _ _
  have HB5 : Hid (Below w.heap.size w w5) := by rw [hw5]; exact Lib.hid (HB4.out.alloc hs4 _)
  have HO5 : Hid (w5.ownsRow w3.heap.size 5 1 (.slice A2 (d.safe.length + d.wait.length) c2) (d.safe.length + d.wait.length) (u8s (d.safe ++ d.wait))) := by rw [hw5]; exact Lib.hid (World.ownsRow.alloc HO4.out _)
  have X6 : Blk w5 (w.heap.size + 1) 36 #[.slice none 0 0, .slice none 0 0] := by rw [hw5]; exact X2.alloc _
  clear hw5 HB4 HO4 X2
  obtain ⟨k0, k1⟩ := bl_c2 X5
  have hx5 := X5.lt
  go_wp2_with fail
  refine (diskCheck_at ⟨d.safe ++ d.wait, []⟩ A2 none c2 0 w5.heap.size w5 ⟨by have := Rd.of_own HO5.out; rwa [← List.length_append] at this, Rd.none_ _ _ _⟩ (Nat.le_refl _) (HE.out.next HB5.out) (List.length_append ..) rfl).mono ?_
  rintro e w6 ⟨rfl, hb6⟩
  have HB6 := Lib.hid (HB5.out.trans (hb6.mono HB5.out.size))
  have HO6 := Lib.hid (own_below HO5.out hb6 (Nat.le_refl _))
  clear k0 k1
  replace X5 := X5.below hb6 X5.lt
  replace X6 := X6.below hb6 X6.lt
  clear hb6 HB5 HO5
  obtain ⟨k0, k1⟩ := bl_c2 X5
  obtain ⟨⟨m0, m1⟩, f0, f1⟩ := bl_c2f X6
  by_cases h0 : dErr ⟨d.safe ++ d.wait, []⟩ = 0
  rotate_left
  · have HZ2 := Lib.hid (HZ.out.trans (if_pos h0))
    have d0 : (dErr ⟨d.safe ++ d.wait, []⟩ != 0) = true := by simpa using h0
    clear HZ h0
    generalize dErr ⟨d.safe ++ d.wait, []⟩ = k at HZ2 d0
    go_wp2_with fail
    refine exit_nameT ?_
    intro Z hZ
    obtain ⟨XZ, hbZ⟩ := set2w X6 HB6.out (Nat.le_succ _) (.slice none 0 0) (.slice none 0 0)
    rw [← hZ] at XZ hbZ
    clear hZ m0 m1 f0 f1
    obtain ⟨z0, z1⟩ := bl_c2 XZ
    refine bodyPost_ret (v := .tuple #[.agg #[.slice none 0 0, .slice none 0 0], .int .i64 k]) (by simp [results, Tryd.results13, go_sem, *]) rfl ?_
    exact ⟨_, k, rfl, by rw [HZ2.out], by rw [HZ2.out]; exact ownDk_zero _ _, hbZ⟩
  have HZ2 := Lib.hid (HZ.out.trans (if_neg (by omega)))
  rw [h0]
  clear HZ h0
  have hx6 := X6.lt
  go_wp2_with fail
  refine exit_nameT ?_
  intro Z hZ
  obtain ⟨XZ, hbZ⟩ := set2w X6 HB6.out (Nat.le_succ _) (.slice A2 (d.safe.length + d.wait.length) c2) (.slice none 0 0)
  have HOZ := own_far2 (g := w.heap.size + 1) HO6.out (fun e => by have := (World.ownsRow.lt HO6.out _ e).1; omega) (.slice A2 (d.safe.length + d.wait.length) c2) (.slice none 0 0)
  rw [← hZ] at XZ hbZ HOZ
  clear hZ m0 m1 f0 f1 k0 k1
  obtain ⟨z0, z1⟩ := bl_c2 XZ
  refine bodyPost_ret (v := .tuple #[.agg #[.slice A2 (d.safe.length + d.wait.length) c2, .slice none 0 0], .int .i64 0]) (by simp [results, Tryd.results13, go_sem, *]) rfl ?_
  exact ⟨_, 0, rfl, by rw [HZ2.out], by rw [HZ2.out]; exact ownDk_mk (own_mono HOZ hs3) (World.ownsRow_nil _ _ _ _), hbZ⟩
end Go.Proofs.YtockodmbhnlheaaDoor
