/-
  THE WALK of the law AccountEven.
-/
import Derived.Test.YtockodmbhnlheaaCounted
import Derived.Test.YtockodmbhnlheaaEvenPure
import Derived.BigQuiet
import Derived.IntWalk
import Derived.Deep.QuietTactic
namespace Go.Proofs.Ytockodmbhnlheaa
open Go.RowKit

set_option maxRecDepth 100000 in
set_option maxHeartbeats 2000000 in
theorem even_err (a b : Ac) (A A' A2 : Option Addr) (c c' n2 c2 : Nat) (m q p f er : Int) (x : Ac) (w : World) (ha : Rd w w.heap.size 1 A a.pos.length c (ints a.pos)) (ht : tradeOf a m q p f = (x, er)) (he : er ≠ 0) :
    Calls Try.prog 8 #[.agg #[.int .i64 a.id, .int .i64 a.bal, .slice A a.pos.length c], .agg #[.int .i64 b.id, .int .i64 b.bal, .slice A' b.pos.length c'], .int .i64 m, .int .i64 q, .int .i64 p, .int .i64 f, .slice A2 n2 c2] w fun e w' => e = .returned (.bool true) ∧ Below w.heap.size w w' := by
  have HT := Lib.hid ht
  have he1 : (er != 0) = true := by simpa using he
  clear ht he
  go_enter Try.func8, Try.ntmps8
  go_wp2_with fail
  refine (trade_any a _ _ _ _ _ _ _ _ ((ha.alloc (Nat.le_refl _) _).alloc (by simp) _) (by simp; omega)).mono ?_
  rw [HT.out]
  rintro e w1 ⟨A1, c1, rfl, h1, hb1⟩
  have hs1 : w.heap.size + 1 < w1.heap.size := by have := hb1.size; simp at this; omega
  have h9 : Below w.heap.size w w1 := (((Below.refl _ _).alloc (Nat.le_refl _) _).alloc (by simp) _).trans (hb1.mono (by simp; omega))
  go_wp2_with fail
  refine (counted_any _).mono ?_
  rintro e w2 ⟨rfl, hb2⟩
  go_wp2_with fail
  refine (counted_any _).mono ?_
  rintro e w3 ⟨rfl, hb3⟩
  go_wp2_with fail
  go_ret
  exact ⟨rfl, ((h9.alloc (by omega) _).trans (hb2.mono (by simp; omega))).trans (hb3.mono (by have := hb2.size; simp at this; omega))⟩

theorem Blk.new2 (w : World) (o : Obj) (t : TypeId) (cs : Array Value) : Blk ((w.alloc o).alloc (.cells cs t)) (w.heap.size + 1) t cs := by
  have := Blk.new (w.alloc o) t cs
  rwa [World.size_alloc] at this
theorem equal_same (A A' : Option Addr) (n c c' : Nat) (xs : List Int) (B B' : Nat) (w : World) (h : Rd w B 1 A n c (ints xs)) (h' : Rd w B' 1 A' n c' (ints xs)) :
    Calls Try.prog 30 #[.slice A n c, .slice A' n c'] w fun e w' => e = .returned (.bool true) ∧ ∃ q, w' = w.drewN q :=
  (equal_ints A A' n c n c' xs xs B B' w h h').mono fun _ _ ⟨h1, h2⟩ => ⟨by rw [h1, eqI_iff.2 rfl], h2⟩
theorem getD_at {l : List Int} {k : Nat} {z : Int} (h : l[k]? = some z) : l.getD k 0 = z := by simp [List.getD, h]

set_option maxRecDepth 100000 in
set_option maxHeartbeats 4000000 in
theorem even_ok (a b : Ac) (A A' A2 : Option Addr) (c c' n2 c2 : Nat) (mk : Nat) (q p f : Int) (x : Ac) (marks : List Int) (w : World) (ha : Rd w w.heap.size 1 A a.pos.length c (ints a.pos)) (hb : Rd w w.heap.size 1 A' b.pos.length c' (ints b.pos)) (hm : Rd w w.heap.size 1 A2 n2 c2 (ints marks))
    (ht : tradeOf a mk q p f = (x, 0)) :
    Calls Try.prog 8 #[.agg #[.int .i64 a.id, .int .i64 a.bal, .slice A a.pos.length c], .agg #[.int .i64 b.id, .int .i64 b.bal, .slice A' b.pos.length c'], .int .i64 mk, .int .i64 q, .int .i64 p, .int .i64 f, .slice A2 n2 c2] w fun e w' => e = .returned (.bool true) ∧ Below w.heap.size w w' := by
  have HT := Lib.hid ht
  obtain ⟨-, ⟨-, hmk⟩, hq, hp, hf, -, hxb, -, hqp⟩ := trade_ok ht
  have HB := Lib.hid (trade_back ht)
  obtain ⟨n, e2, hn⟩ : ∃ n e2, equityOf a marks = (n, e2) := ⟨_, _, rfl⟩
  obtain ⟨n', e3, hn'⟩ : ∃ n' e3, equityOf x marks = (n', e3) := ⟨_, _, rfl⟩
  have HN := Lib.hid hn
  have HN' := Lib.hid hn'
  have HML := Lib.hid hm.ofInts
  clear ht hn hn' hxb
  go_enter Try.func8, Try.ntmps8
  go_wp2_with fail
  refine (trade_any a _ _ _ _ _ _ _ _ ((ha.alloc (Nat.le_refl _) _).alloc (by simp) _) (by simp; omega)).mono ?_
  rw [HT.out]
  rintro e w1 ⟨A1, c1, rfl, h1, hb1⟩
  have hs1 : w.heap.size + 1 < w1.heap.size := by have := hb1.size; simp at this; omega
  have h9 : Below w.heap.size w w1 := (((Below.refl _ _).alloc (Nat.le_refl _) _).alloc (by simp) _).trans (hb1.mono (by simp; omega))
  have Ba1 := Lib.hid (((Blk.new w 37 #[.int .i64 a.id, .int .i64 a.bal, .slice A a.pos.length c]).alloc (.cells #[.int .i64 b.id, .int .i64 b.bal, .slice A' b.pos.length c'] 37)).below hb1 (by simp; omega))
  have Bb1 := Lib.hid ((Blk.new2 w (.cells #[.int .i64 a.id, .int .i64 a.bal, .slice A a.pos.length c] 37) 37 #[.int .i64 b.id, .int .i64 b.bal, .slice A' b.pos.length c']).below hb1 (by simp))
  have rx1 : Rd w1 w1.heap.size 1 A1 x.pos.length c1 (ints x.pos) := Rd.of_own h1
  clear h1 hb1
  go_wp2_with fail
  refine (counted_any _).mono ?_
  rintro e w2 ⟨rfl, hb2⟩
  have Ba2 := Lib.hid ((Ba1.out.alloc (.cells #[.int .i64 x.id, .int .i64 x.bal, .slice A1 x.pos.length c1] 37)).below hb2 (by simp; omega))
  have Bb2 := Lib.hid ((Bb1.out.alloc (.cells #[.int .i64 x.id, .int .i64 x.bal, .slice A1 x.pos.length c1] 37)).below hb2 (by simp; omega))
  have Bx2 := Lib.hid ((Blk.new w1 37 #[.int .i64 x.id, .int .i64 x.bal, .slice A1 x.pos.length c1]).below hb2 (by simp))
  have rx2 := (rx1.alloc (Nat.le_refl _) (.cells #[.int .i64 x.id, .int .i64 x.bal, .slice A1 x.pos.length c1] 37)).below (hb2.mono (by simp))
  have h92 : Below w.heap.size w w2 := (h9.alloc (by omega) _).trans (hb2.mono (by simp; omega))
  have hs2 : w1.heap.size < w2.heap.size := by have := hb2.size; simp at this; omega
  obtain ⟨⟨a0, a1, a2⟩, _⟩ := Ba2.out.c3
  obtain ⟨⟨x0, x1, x2⟩, _⟩ := Bx2.out.c3
  clear Ba1 Bb1 rx1 h9 hb2
  go_wp2_with fail
  refine (equity_any a _ _ _ _ _ marks _ _ _ (ha.below h92) (by omega) (hm.below h92) (by omega)).mono ?_
  rw [HN.out]
  rintro e w3 ⟨rfl, hb3⟩
  have Ba3 := Lib.hid (Ba2.out.below hb3 (by omega))
  have Bb3 := Lib.hid (Bb2.out.below hb3 (by omega))
  have Bx3 := Lib.hid (Bx2.out.below hb3 (by omega))
  have rx3 := rx2.below (hb3.mono (by omega))
  have h93 := h92.trans (hb3.mono (by omega))
  have hs3 := hb3.size
  clear a0 a1 a2 x0 x1 x2 Ba2 Bb2 Bx2 rx2 h92 hb3
  obtain ⟨⟨x0, x1, x2⟩, _⟩ := Bx3.out.c3
  go_wp2_with fail
  refine (equity_any x _ _ _ _ _ marks _ _ _ rx3 (by omega) (hm.below h93) (by omega)).mono ?_
  rw [HN'.out]
  rintro e w4 ⟨rfl, hb4⟩
  have Ba4 := Lib.hid (Ba3.out.below hb4 (by omega))
  have Bb4 := Lib.hid (Bb3.out.below hb4 (by omega))
  have Bx4 := Lib.hid (Bx3.out.below hb4 (by omega))
  have rx4 := rx3.below (hb4.mono (by omega))
  have h94 := h93.trans (hb4.mono (by omega))
  have hs4 := hb4.size
  have hm4 := hm.below h94
  clear x0 x1 x2 Ba3 Bb3 Bx3 rx3 h93 hb4
  obtain ⟨⟨x0, x1, x2⟩, _⟩ := Bx4.out.c3
  obtain ⟨⟨a0, a1, a2⟩, _⟩ := Ba4.out.c3
  have HW : Hid ((e2 == 0) = false ∨ (e2 == 0) = true ∧ (e3 == 0) = false ∨ e2 = 0 ∧ e3 = 0) := by
    show _ ∨ _
    by_cases g : e2 = 0
    · by_cases g' : e3 = 0
      · exact .inr (.inr ⟨g, g'⟩)
      · exact .inr (.inl ⟨by simpa using g, by simpa using g'⟩)
    · exact .inl (by simpa using g)
  rcases HW.out with g | ⟨g, g'⟩ | ⟨g, g'⟩
  rotate_right
  · subst g g'
    obtain ⟨l1, l2, l3, l4, l5⟩ := even_law HT.out HN.out HN'.out
    rw [Int.toNat_natCast] at l2 l3 l5
    have hlt : mk < n2 := by have := HML.out; omega
    obtain ⟨b2, o2, rfl, hb2, k, hk, hc⟩ := hm4.int hlt
    rw [getD_at hk] at l2 l3 l5
    clear hk l1
    subst l3
    obtain ⟨l6, l7⟩ := l4
    obtain ⟨l8, l9⟩ := l5
    obtain ⟨l10, l11⟩ := l2
    obtain ⟨l12, l13⟩ := hf
    have l14 : (mk : Int) < (n2 : Int) := by omega
    go_wp2_with fail
    clear l6 l7 l8 l9 l10 l11 l14 hc hlt hb2 hm hm4
    clear HW
    refine (trade_any x _ _ _ _ _ _ _ _ rx4 (by omega)).mono ?_
    rcases HB.out with hk | ⟨hk, hm5⟩
    · rw [hk]
      rintro e w5 ⟨A5, c5, rfl, h5, hb5⟩
      go_wp2_with fail
      go_ret
      exact ⟨rfl, (h94.trans (hb5.mono (by omega))).alloc (by have := hb5.size; omega) _⟩
    · rw [hk]
      obtain ⟨m5, m6⟩ := isMoney_iff.1 hm5
      clear hk hm5
      rintro e w5 ⟨A5, c5, rfl, h5, hb5⟩
      have Ba5 := Lib.hid (Ba4.out.below hb5 (by omega))
      have Bb5 := Lib.hid (Bb4.out.below hb5 (by omega))
      have Bx5 := Lib.hid (Bx4.out.below hb5 (by omega))
      have rx5 := rx4.below (hb5.mono (by omega))
      have h95 := h94.trans (hb5.mono (by omega))
      have hs5 := hb5.size
      have ra5 := ha.below h95
      have ry5 : Rd w5 w5.heap.size 1 A5 a.pos.length c5 (ints a.pos) := Rd.of_own h5
      clear x0 x1 x2 a0 a1 a2 Ba4 Bb4 Bx4 rx4 h94 hb5 h5
      obtain ⟨⟨a0, a1, a2⟩, _⟩ := Ba5.out.c3
      have z0 : w.heap.size < w5.heap.size := by omega
      have z1 : w.heap.size + 1 < w5.heap.size := by omega
      have z2 : w1.heap.size < w5.heap.size := by omega
      have z3 : (a.bal - f != a.bal - f) = false := by simp
      obtain ⟨⟨b0, b1, b2'⟩, _⟩ := Bb5.out.c3
      go_wp2_with fail
      refine (equal_same _ _ _ _ _ _ _ _ _ (ry5.alloc (Nat.le_refl _) _) (ra5.alloc (by omega) _)).mono ?_
      rintro e w6 ⟨rfl, q6, rfl⟩
      go_wp2_with fail
      have h96 : Below w.heap.size w (w5.alloc (.cells #[.int .i64 a.id, .int .i64 (a.bal - f), .slice A5 a.pos.length c5] 37)) := h95.alloc (by omega) _
      obtain ⟨z, e5, hz⟩ : ∃ z e5, tradeOf b mk (-q) p 0 = (z, e5) := ⟨_, _, rfl⟩
      have HZ := Lib.hid hz
      clear hz
      refine (trade_any b _ _ _ _ _ _ _ _ ((hb.below h96).drewN _) (by simp; omega)).mono ?_
      rw [HZ.out]
      rintro e w7 ⟨A7, c7, rfl, h7, hb7⟩
      have rz7 : Rd w7 w7.heap.size 1 A7 z.pos.length c7 (ints z.pos) := Rd.of_own h7
      have h97 : Below w.heap.size w w7 := (below_drewN h96 q6).trans (hb7.mono (by simp; omega))
      have hs7 : w5.heap.size < w7.heap.size := by have := hb7.size; simp at this; omega
      by_cases h5e : e5 = 0
      · subst h5e
        obtain ⟨t1, t2, ⟨t3, t4⟩, t5, t6, t7, t8⟩ := trade_anti HT.out HZ.out
        rw [Int.toNat_natCast] at t2 t7 t8
        have Ba7 := Lib.hid (((Ba5.out.alloc (.cells #[.int .i64 a.id, .int .i64 (a.bal - f), .slice A5 a.pos.length c5] 37)).drewN q6).below hb7 (by simp; omega))
        have Bb7 := Lib.hid (((Bb5.out.alloc (.cells #[.int .i64 a.id, .int .i64 (a.bal - f), .slice A5 a.pos.length c5] 37)).drewN q6).below hb7 (by simp; omega))
        have Bx7 := Lib.hid (((Bx5.out.alloc (.cells #[.int .i64 a.id, .int .i64 (a.bal - f), .slice A5 a.pos.length c5] 37)).drewN q6).below hb7 (by simp; omega))
        have rx7 := ((rx5.alloc (by omega) (.cells #[.int .i64 a.id, .int .i64 (a.bal - f), .slice A5 a.pos.length c5] 37)).drewN q6).below (hb7.mono (by simp; omega))
        have ra7 := ha.below h97
        have rb7 := hb.below h97
        obtain ⟨u1, u2, u3, u4, u5⟩ := trade_more HT.out
        rw [Int.toNat_natCast] at u4 u5
        obtain ⟨bz, oz, rfl, hbz, zp, hzp, cz⟩ := rz7.int (show mk < z.pos.length by omega)
        obtain ⟨bx, ox, rfl, hbx, xp, hxp, cx⟩ := rx7.int (show mk < x.pos.length by omega)
        obtain ⟨ba, oa, rfl, hba, ap, hap, ca⟩ := ra7.int (show mk < a.pos.length by omega)
        obtain ⟨bb, ob, rfl, hbb, bp, hbp, cb⟩ := rb7.int (show mk < b.pos.length by omega)
        rw [getD_at hzp, getD_at hxp, getD_at hap, getD_at hbp] at t2
        rw [getD_at hzp] at t7
        rw [getD_at hbp] at t8
        rw [getD_at hap] at u4
        rw [getD_at hxp] at u5
        have v1 : (z.bal + x.bal + f == a.bal + b.bal) = true := by simpa using t1
        have v2 : (zp + xp == ap + bp) = true := by simpa using t2
        have i1 : (mk : Int) < (z.pos.length : Int) := by omega
        have i2 : (mk : Int) < (x.pos.length : Int) := by omega
        have i4 : (0 : Int) ≤ (mk : Int) := by omega
        have z0' : w.heap.size < w7.heap.size := by omega
        have z1' : w.heap.size + 1 < w7.heap.size := by omega
        have z2' : w1.heap.size < w7.heap.size := by omega
        have k2 : bx < w7.heap.size := by omega
        have k3 : ba < w7.heap.size := by omega
        have k4 : bb < w7.heap.size := by omega
        obtain ⟨⟨a0, a1, a2⟩, _⟩ := Ba7.out.c3
        obtain ⟨⟨b0, b1, b2'⟩, _⟩ := Bb7.out.c3
        obtain ⟨⟨x0, x1, x2⟩, _⟩ := Bx7.out.c3
        have j1 : IntKind.i64.wrap (z.bal + x.bal) = z.bal + x.bal := IntWalk.i64_in _ (by omega)
        have j2 : IntKind.i64.wrap (z.bal + x.bal + f) = z.bal + x.bal + f := IntWalk.i64_in _ (by omega)
        have j3 : IntKind.i64.wrap (a.bal + b.bal) = a.bal + b.bal := IntWalk.i64_in _ (by omega)
        have j4 : IntKind.i64.wrap (zp + xp) = zp + xp := IntWalk.i64_in _ (by omega)
        have j5 : IntKind.i64.wrap (ap + bp) = ap + bp := IntWalk.i64_in _ (by omega)
        clear t1 t2 t3 u1 hzp hxp hap hbp h7 hb7 hb
        go_wp2_with fail
        go_quiet (fail)
        go_wp2_with fail
        go_ret
        exact ⟨rfl, below_drewN (h97.alloc (by omega) _) _⟩
      · have h51 : (e5 != 0) = true := by simpa using h5e
        clear h5e a0 a1 a2 b0 b1 b2' hb7 h7
        go_wp2_with fail
        go_quiet (fail)
        go_wp2_with fail
        go_ret
        exact ⟨rfl, below_drewN (h97.alloc (by omega) _) _⟩

  · go_wp2_with fail
    clear hm hm4
    clear HW
    refine (trade_any x _ _ _ _ _ _ _ _ rx4 (by omega)).mono ?_
    rcases HB.out with hk | ⟨hk, hm5⟩
    · rw [hk]
      rintro e w5 ⟨A5, c5, rfl, h5, hb5⟩
      go_wp2_with fail
      go_ret
      exact ⟨rfl, (h94.trans (hb5.mono (by omega))).alloc (by have := hb5.size; omega) _⟩
    · rw [hk]
      obtain ⟨m5, m6⟩ := isMoney_iff.1 hm5
      clear hk hm5
      rintro e w5 ⟨A5, c5, rfl, h5, hb5⟩
      have Ba5 := Lib.hid (Ba4.out.below hb5 (by omega))
      have Bb5 := Lib.hid (Bb4.out.below hb5 (by omega))
      have Bx5 := Lib.hid (Bx4.out.below hb5 (by omega))
      have rx5 := rx4.below (hb5.mono (by omega))
      have h95 := h94.trans (hb5.mono (by omega))
      have hs5 := hb5.size
      have ra5 := ha.below h95
      have ry5 : Rd w5 w5.heap.size 1 A5 a.pos.length c5 (ints a.pos) := Rd.of_own h5
      clear x0 x1 x2 a0 a1 a2 Ba4 Bb4 Bx4 rx4 h94 hb5 h5
      obtain ⟨⟨a0, a1, a2⟩, _⟩ := Ba5.out.c3
      have z0 : w.heap.size < w5.heap.size := by omega
      have z1 : w.heap.size + 1 < w5.heap.size := by omega
      have z2 : w1.heap.size < w5.heap.size := by omega
      have z3 : (a.bal - f != a.bal - f) = false := by simp
      obtain ⟨⟨b0, b1, b2'⟩, _⟩ := Bb5.out.c3
      go_wp2_with fail
      refine (equal_same _ _ _ _ _ _ _ _ _ (ry5.alloc (Nat.le_refl _) _) (ra5.alloc (by omega) _)).mono ?_
      rintro e w6 ⟨rfl, q6, rfl⟩
      go_wp2_with fail
      have h96 : Below w.heap.size w (w5.alloc (.cells #[.int .i64 a.id, .int .i64 (a.bal - f), .slice A5 a.pos.length c5] 37)) := h95.alloc (by omega) _
      obtain ⟨z, e5, hz⟩ : ∃ z e5, tradeOf b mk (-q) p 0 = (z, e5) := ⟨_, _, rfl⟩
      have HZ := Lib.hid hz
      clear hz
      refine (trade_any b _ _ _ _ _ _ _ _ ((hb.below h96).drewN _) (by simp; omega)).mono ?_
      rw [HZ.out]
      rintro e w7 ⟨A7, c7, rfl, h7, hb7⟩
      have rz7 : Rd w7 w7.heap.size 1 A7 z.pos.length c7 (ints z.pos) := Rd.of_own h7
      have h97 : Below w.heap.size w w7 := (below_drewN h96 q6).trans (hb7.mono (by simp; omega))
      have hs7 : w5.heap.size < w7.heap.size := by have := hb7.size; simp at this; omega
      by_cases h5e : e5 = 0
      · subst h5e
        obtain ⟨t1, t2, ⟨t3, t4⟩, t5, t6, t7, t8⟩ := trade_anti HT.out HZ.out
        rw [Int.toNat_natCast] at t2 t7 t8
        have Ba7 := Lib.hid (((Ba5.out.alloc (.cells #[.int .i64 a.id, .int .i64 (a.bal - f), .slice A5 a.pos.length c5] 37)).drewN q6).below hb7 (by simp; omega))
        have Bb7 := Lib.hid (((Bb5.out.alloc (.cells #[.int .i64 a.id, .int .i64 (a.bal - f), .slice A5 a.pos.length c5] 37)).drewN q6).below hb7 (by simp; omega))
        have Bx7 := Lib.hid (((Bx5.out.alloc (.cells #[.int .i64 a.id, .int .i64 (a.bal - f), .slice A5 a.pos.length c5] 37)).drewN q6).below hb7 (by simp; omega))
        have rx7 := ((rx5.alloc (by omega) (.cells #[.int .i64 a.id, .int .i64 (a.bal - f), .slice A5 a.pos.length c5] 37)).drewN q6).below (hb7.mono (by simp; omega))
        have ra7 := ha.below h97
        have rb7 := hb.below h97
        obtain ⟨u1, u2, u3, u4, u5⟩ := trade_more HT.out
        rw [Int.toNat_natCast] at u4 u5
        obtain ⟨bz, oz, rfl, hbz, zp, hzp, cz⟩ := rz7.int (show mk < z.pos.length by omega)
        obtain ⟨bx, ox, rfl, hbx, xp, hxp, cx⟩ := rx7.int (show mk < x.pos.length by omega)
        obtain ⟨ba, oa, rfl, hba, ap, hap, ca⟩ := ra7.int (show mk < a.pos.length by omega)
        obtain ⟨bb, ob, rfl, hbb, bp, hbp, cb⟩ := rb7.int (show mk < b.pos.length by omega)
        rw [getD_at hzp, getD_at hxp, getD_at hap, getD_at hbp] at t2
        rw [getD_at hzp] at t7
        rw [getD_at hbp] at t8
        rw [getD_at hap] at u4
        rw [getD_at hxp] at u5
        have v1 : (z.bal + x.bal + f == a.bal + b.bal) = true := by simpa using t1
        have v2 : (zp + xp == ap + bp) = true := by simpa using t2
        have i1 : (mk : Int) < (z.pos.length : Int) := by omega
        have i2 : (mk : Int) < (x.pos.length : Int) := by omega
        have i4 : (0 : Int) ≤ (mk : Int) := by omega
        have z0' : w.heap.size < w7.heap.size := by omega
        have z1' : w.heap.size + 1 < w7.heap.size := by omega
        have z2' : w1.heap.size < w7.heap.size := by omega
        have k2 : bx < w7.heap.size := by omega
        have k3 : ba < w7.heap.size := by omega
        have k4 : bb < w7.heap.size := by omega
        obtain ⟨⟨a0, a1, a2⟩, _⟩ := Ba7.out.c3
        obtain ⟨⟨b0, b1, b2'⟩, _⟩ := Bb7.out.c3
        obtain ⟨⟨x0, x1, x2⟩, _⟩ := Bx7.out.c3
        have j1 : IntKind.i64.wrap (z.bal + x.bal) = z.bal + x.bal := IntWalk.i64_in _ (by omega)
        have j2 : IntKind.i64.wrap (z.bal + x.bal + f) = z.bal + x.bal + f := IntWalk.i64_in _ (by omega)
        have j3 : IntKind.i64.wrap (a.bal + b.bal) = a.bal + b.bal := IntWalk.i64_in _ (by omega)
        have j4 : IntKind.i64.wrap (zp + xp) = zp + xp := IntWalk.i64_in _ (by omega)
        have j5 : IntKind.i64.wrap (ap + bp) = ap + bp := IntWalk.i64_in _ (by omega)
        clear t1 t2 t3 u1 hzp hxp hap hbp h7 hb7 hb
        go_wp2_with fail
        go_quiet (fail)
        go_wp2_with fail
        go_ret
        exact ⟨rfl, below_drewN (h97.alloc (by omega) _) _⟩
      · have h51 : (e5 != 0) = true := by simpa using h5e
        clear h5e a0 a1 a2 b0 b1 b2' hb7 h7
        go_wp2_with fail
        go_quiet (fail)
        go_wp2_with fail
        go_ret
        exact ⟨rfl, below_drewN (h97.alloc (by omega) _) _⟩

  · go_wp2_with fail
    clear hm hm4
    clear HW
    refine (trade_any x _ _ _ _ _ _ _ _ rx4 (by omega)).mono ?_
    rcases HB.out with hk | ⟨hk, hm5⟩
    · rw [hk]
      rintro e w5 ⟨A5, c5, rfl, h5, hb5⟩
      go_wp2_with fail
      go_ret
      exact ⟨rfl, (h94.trans (hb5.mono (by omega))).alloc (by have := hb5.size; omega) _⟩
    · rw [hk]
      obtain ⟨m5, m6⟩ := isMoney_iff.1 hm5
      clear hk hm5
      rintro e w5 ⟨A5, c5, rfl, h5, hb5⟩
      have Ba5 := Lib.hid (Ba4.out.below hb5 (by omega))
      have Bb5 := Lib.hid (Bb4.out.below hb5 (by omega))
      have Bx5 := Lib.hid (Bx4.out.below hb5 (by omega))
      have rx5 := rx4.below (hb5.mono (by omega))
      have h95 := h94.trans (hb5.mono (by omega))
      have hs5 := hb5.size
      have ra5 := ha.below h95
      have ry5 : Rd w5 w5.heap.size 1 A5 a.pos.length c5 (ints a.pos) := Rd.of_own h5
      clear x0 x1 x2 a0 a1 a2 Ba4 Bb4 Bx4 rx4 h94 hb5 h5
      obtain ⟨⟨a0, a1, a2⟩, _⟩ := Ba5.out.c3
      have z0 : w.heap.size < w5.heap.size := by omega
      have z1 : w.heap.size + 1 < w5.heap.size := by omega
      have z2 : w1.heap.size < w5.heap.size := by omega
      have z3 : (a.bal - f != a.bal - f) = false := by simp
      obtain ⟨⟨b0, b1, b2'⟩, _⟩ := Bb5.out.c3
      go_wp2_with fail
      refine (equal_same _ _ _ _ _ _ _ _ _ (ry5.alloc (Nat.le_refl _) _) (ra5.alloc (by omega) _)).mono ?_
      rintro e w6 ⟨rfl, q6, rfl⟩
      go_wp2_with fail
      have h96 : Below w.heap.size w (w5.alloc (.cells #[.int .i64 a.id, .int .i64 (a.bal - f), .slice A5 a.pos.length c5] 37)) := h95.alloc (by omega) _
      obtain ⟨z, e5, hz⟩ : ∃ z e5, tradeOf b mk (-q) p 0 = (z, e5) := ⟨_, _, rfl⟩
      have HZ := Lib.hid hz
      clear hz
      refine (trade_any b _ _ _ _ _ _ _ _ ((hb.below h96).drewN _) (by simp; omega)).mono ?_
      rw [HZ.out]
      rintro e w7 ⟨A7, c7, rfl, h7, hb7⟩
      have rz7 : Rd w7 w7.heap.size 1 A7 z.pos.length c7 (ints z.pos) := Rd.of_own h7
      have h97 : Below w.heap.size w w7 := (below_drewN h96 q6).trans (hb7.mono (by simp; omega))
      have hs7 : w5.heap.size < w7.heap.size := by have := hb7.size; simp at this; omega
      by_cases h5e : e5 = 0
      · subst h5e
        obtain ⟨t1, t2, ⟨t3, t4⟩, t5, t6, t7, t8⟩ := trade_anti HT.out HZ.out
        rw [Int.toNat_natCast] at t2 t7 t8
        have Ba7 := Lib.hid (((Ba5.out.alloc (.cells #[.int .i64 a.id, .int .i64 (a.bal - f), .slice A5 a.pos.length c5] 37)).drewN q6).below hb7 (by simp; omega))
        have Bb7 := Lib.hid (((Bb5.out.alloc (.cells #[.int .i64 a.id, .int .i64 (a.bal - f), .slice A5 a.pos.length c5] 37)).drewN q6).below hb7 (by simp; omega))
        have Bx7 := Lib.hid (((Bx5.out.alloc (.cells #[.int .i64 a.id, .int .i64 (a.bal - f), .slice A5 a.pos.length c5] 37)).drewN q6).below hb7 (by simp; omega))
        have rx7 := ((rx5.alloc (by omega) (.cells #[.int .i64 a.id, .int .i64 (a.bal - f), .slice A5 a.pos.length c5] 37)).drewN q6).below (hb7.mono (by simp; omega))
        have ra7 := ha.below h97
        have rb7 := hb.below h97
        obtain ⟨u1, u2, u3, u4, u5⟩ := trade_more HT.out
        rw [Int.toNat_natCast] at u4 u5
        obtain ⟨bz, oz, rfl, hbz, zp, hzp, cz⟩ := rz7.int (show mk < z.pos.length by omega)
        obtain ⟨bx, ox, rfl, hbx, xp, hxp, cx⟩ := rx7.int (show mk < x.pos.length by omega)
        obtain ⟨ba, oa, rfl, hba, ap, hap, ca⟩ := ra7.int (show mk < a.pos.length by omega)
        obtain ⟨bb, ob, rfl, hbb, bp, hbp, cb⟩ := rb7.int (show mk < b.pos.length by omega)
        rw [getD_at hzp, getD_at hxp, getD_at hap, getD_at hbp] at t2
        rw [getD_at hzp] at t7
        rw [getD_at hbp] at t8
        rw [getD_at hap] at u4
        rw [getD_at hxp] at u5
        have v1 : (z.bal + x.bal + f == a.bal + b.bal) = true := by simpa using t1
        have v2 : (zp + xp == ap + bp) = true := by simpa using t2
        have i1 : (mk : Int) < (z.pos.length : Int) := by omega
        have i2 : (mk : Int) < (x.pos.length : Int) := by omega
        have i4 : (0 : Int) ≤ (mk : Int) := by omega
        have z0' : w.heap.size < w7.heap.size := by omega
        have z1' : w.heap.size + 1 < w7.heap.size := by omega
        have z2' : w1.heap.size < w7.heap.size := by omega
        have k2 : bx < w7.heap.size := by omega
        have k3 : ba < w7.heap.size := by omega
        have k4 : bb < w7.heap.size := by omega
        obtain ⟨⟨a0, a1, a2⟩, _⟩ := Ba7.out.c3
        obtain ⟨⟨b0, b1, b2'⟩, _⟩ := Bb7.out.c3
        obtain ⟨⟨x0, x1, x2⟩, _⟩ := Bx7.out.c3
        have j1 : IntKind.i64.wrap (z.bal + x.bal) = z.bal + x.bal := IntWalk.i64_in _ (by omega)
        have j2 : IntKind.i64.wrap (z.bal + x.bal + f) = z.bal + x.bal + f := IntWalk.i64_in _ (by omega)
        have j3 : IntKind.i64.wrap (a.bal + b.bal) = a.bal + b.bal := IntWalk.i64_in _ (by omega)
        have j4 : IntKind.i64.wrap (zp + xp) = zp + xp := IntWalk.i64_in _ (by omega)
        have j5 : IntKind.i64.wrap (ap + bp) = ap + bp := IntWalk.i64_in _ (by omega)
        clear t1 t2 t3 u1 hzp hxp hap hbp h7 hb7 hb
        go_wp2_with fail
        go_quiet (fail)
        go_wp2_with fail
        go_ret
        exact ⟨rfl, below_drewN (h97.alloc (by omega) _) _⟩
      · have h51 : (e5 != 0) = true := by simpa using h5e
        clear h5e a0 a1 a2 b0 b1 b2' hb7 h7
        go_wp2_with fail
        go_quiet (fail)
        go_wp2_with fail
        go_ret
        exact ⟨rfl, below_drewN (h97.alloc (by omega) _) _⟩


theorem accountEven_walk (a : Ac) (A : Option Addr) (c : Nat) (b : Ac) (A' : Option Addr) (c' : Nat) (m q p f : Int) (A2 : Option Addr) (n2 c2 : Nat) (marks : List Int) (w : World) (ha : Rd w w.heap.size 1 A a.pos.length c (ints a.pos)) (hb : Rd w w.heap.size 1 A' b.pos.length c' (ints b.pos)) (hm : Rd w w.heap.size 1 A2 n2 c2 (ints marks)) :
    Calls Try.prog 8 #[.agg #[.int .i64 a.id, .int .i64 a.bal, .slice A a.pos.length c], .agg #[.int .i64 b.id, .int .i64 b.bal, .slice A' b.pos.length c'], .int .i64 m, .int .i64 q, .int .i64 p, .int .i64 f, .slice A2 n2 c2] w fun e w' => e = .returned (.bool true) ∧ Below w.heap.size w w' := by
  obtain ⟨x, er, ht⟩ : ∃ x er, tradeOf a m q p f = (x, er) := ⟨_, _, rfl⟩
  by_cases he : er = 0
  · subst he
    obtain ⟨mk, rfl⟩ : ∃ mk : Nat, m = mk := ⟨m.toNat, by have := (trade_ok ht).2.1; omega⟩
    exact even_ok a b A A' A2 c c' n2 c2 mk q p f x marks w ha hb hm ht
  · exact even_err a b A A' A2 c c' n2 c2 m q p f er x w ha ht he

end Go.Proofs.Ytockodmbhnlheaa
