/-
  text.Print's put: two numbers behind the words.
-/
import Derived.Test.YtockodmbhnlheaaDoorTextCheck
import Derived.Deep.RegionLaw
import Derived.LoopTactic
namespace Go.Proofs.YtockodmbhnlheaaDoor
open Go.RowKit

theorem step_appT {P : Program} {ops : Array Oper} {o : Oper} {a : Act} {w : World} {K : Act → World → Prop} {Q : Exit → Act → World → Prop} {X : Prop} (hgd : o.guard = none) (s x : Operand) (t : TypeId)
    (ho : o.op = .call { callee := .builtin .append, args := #[s, x], argTypes := #[t, t] })
    (base e k bytes : Nat) (E : Elem P t e k bytes) (v : Value) (n : Nat) (xs : List Value) (hs : a.eval s = v) (hown : w.ownsRow base e k v n xs)
    (B : Nat) (A : Option Addr) (m c : Nat) (news : List Value) (hx : a.eval x = .slice A m c) (hr : Rd w B k A m c news) (h1 : ∀ u ∈ news, u.oneCell' = true)
    (hlen : n + m ≤ maxLen) (hbytes : (n + m) * bytes ≤ 140737488355328) (hbase : base ≤ w.heap.size)
    (h : ∀ v' w', w'.ownsRow base e k v' (n + m) (xs ++ news) → Below base w w' → w.grownBy w' v.ownBlock → (v'.ownBlock = v.ownBlock ∨ v'.ownBlock = some w.heap.size) → K (a.put o.dst v') w') :
    (if Region.wanted o (yielded ops a.tmps) = true then o.wp P a w K Q else X) := by
  rw [if_pos (show Region.wanted o (yielded ops a.tmps) = true by simp [Region.wanted, hgd])]
  exact wp_app s x t ho base e k bytes E v n xs hs hown B A m c news hx hr h1 hlen hbytes hbase h
theorem rd_newT {w : World} (cs : Array Value) (t : TypeId) (g k : Nat) (hg : g = w.heap.size) (hk : cs.size = k) (xs : List Value) (hx : cs.toList = xs) : Rd (w.alloc (.cells cs t)) (g + 1) k (some ⟨g, 0, none⟩) 1 1 xs := by
  subst hg hx
  exact ⟨by simp [hk], Nat.le_refl _, by decide, nofun, fun _ => ⟨_, _, rfl, by omega, fun j u hj => by rw [World.cell?_alloc_new]; simpa using hj⟩⟩
theorem elem_st : Elem Tryd.prog 58 9 1 16 := elem_mk Tryd.underlying58 (by kernel_rfl) (by decide)
theorem blk_grown {w w' : World} {g : Nat} {t : TypeId} {cs : Array Value} {b : Option Nat} (h : Blk w g t cs) (hg : w.grownBy w' b) (hne : b ≠ some g) : Blk w' g t cs := (hg.block g h.lt fun e => hne e.symm).trans h
theorem own_farT {w : World} {base e k n : Nat} {v : Value} {xs : List Value} (h : w.ownsRow base e k v n xs) {p : Addr} (hp : v.ownBlock ≠ some p.block) (u : Value) : (w.setCell p u).ownsRow base e k v n xs := by
  obtain ⟨hl, h0 | ⟨g, cap, cur, rfl, h1, h2, h3⟩⟩ := h
  · exact ⟨hl, .inl h0⟩
  · exact ⟨hl, .inr ⟨g, cap, cur, rfl, h1, Blk.far (t := e) (cs := cur) h2 (fun e => hp (by rw [← e]; rfl)) u, h3⟩⟩
theorem bl_c2 {w : World} {g : Nat} {t : TypeId} {a b : Value} (h : Blk w g t #[a, b]) : w.cell? ⟨g, 0, none⟩ = some a ∧ w.cell? ⟨g, 1, none⟩ = some b := ⟨h.cell 0, h.cell 1⟩

/-- the words so far, in the variable's cell g. -/
structure PW (w0 wr : World) (base g : Nat) (v : Value) (L : List (List UInt8)) : Prop where
  bel : Below base w0 wr
  cell : Blk wr g 58 #[v]
  gb : base ≤ g
  row : wr.ownsRow base 9 1 v L.length (strs L)
  ap : v.ownBlock ≠ some g
  low : 8 ≤ base
  env : Env w0
  size : base ≤ wr.heap.size
theorem PW.en {w0 wr : World} {base g : Nat} {v : Value} {L : List (List UInt8)} (h : PW w0 wr base g v L) : Env wr := h.env.below h.bel h.low
theorem PW.below {w0 wr w1 : World} {base g : Nat} {v : Value} {L : List (List UInt8)} (h : PW w0 wr base g v L) (hb : Below wr.heap.size wr w1) : PW w0 w1 base g v L :=
  ⟨h.bel.trans (hb.mono h.size), h.cell.below hb h.cell.lt, h.gb, own_below h.row hb (Nat.le_refl _), h.ap, h.low, h.env, Nat.le_trans h.size hb.size⟩
/-- a word more. -/
theorem PW.add {w0 wr W4 : World} {base g : Nat} {v v4 : Value} {L : List (List UInt8)} {x : List UInt8} (h : PW w0 wr base g v L) (hown : W4.ownsRow base 9 1 v4 (L.length + 1) (strs L ++ strs [x])) (hb : Below base wr W4) (hg : wr.grownBy W4 v.ownBlock)
    (ha : v4.ownBlock = v.ownBlock ∨ v4.ownBlock = some wr.heap.size) : PW w0 (W4.setCell ⟨g, 0, none⟩ v4) base g v4 (L ++ [x]) := by
  have hc := blk_grown h.cell hg h.ap
  have hap : v4.ownBlock ≠ some g := by
    rcases ha with e | e
    · rw [e]; exact h.ap
    · rw [e]; intro e'; injection e' with e'; have := h.cell.lt; omega
  refine ⟨(h.bel.trans hb).setCell h.gb _, hc.set_ 0 v4, h.gb, ?_, hap, h.low, h.env, Nat.le_trans h.size (by simpa using hb.size)⟩
  rw [← strs_app] at hown
  have := own_farT hown (p := ⟨g, 0, none⟩) hap v4
  rw [List.length_append]
  exact this
theorem ap_add {w : World} {v v4 : Value} {ga : Nat} (hv : v.ownBlock ≠ some ga) (hga : ga < w.heap.size) (ha : v4.ownBlock = v.ownBlock ∨ v4.ownBlock = some w.heap.size) : v4.ownBlock ≠ some ga := by
  rcases ha with e | e
  · rw [e]; exact hv
  · rw [e]; intro e'; injection e' with e'; omega

set_option maxHeartbeats 2000000 in
set_option maxRecDepth 100000 in
theorem put_any (w0 w : World) (base g ga : Nat) (v : Value) (L : List (List UInt8)) (x y : Int) (h : PW w0 w base g v L) (ha : Blk w ga 3 #[.int .i64 x, .int .i64 y]) (hv : v.ownBlock ≠ some ga) (hga : ga ≠ g) (hx : I64 x) (hy : I64 y) (hL : L.length ≤ 100) :
    Calls Tryd.prog 28 #[.slice (some ⟨ga, 0, none⟩) 2 2, .pointer (some ⟨g, 0, none⟩)] w fun e w' => e = .returned (.tuple #[]) ∧ ∃ v', PW w0 w' base g v' (L ++ [Lib.itoa x, Lib.itoa y]) := by
  have H0 := Lib.hid h
  have HA0 := Lib.hid ha
  have HV0 := Lib.hid hv
  clear h ha hv
  go_enter Tryd.func28, Tryd.ntmps28
  go_wp2_with fail
  go_loopw [7] (fun vi wr => ∃ (j : Nat) (v' : Value), j ≤ 2 ∧ vi = .int .i64 j ∧ Hid (PW w0 wr base g v' (L ++ ([x, y].take j).map Lib.itoa)) ∧ Hid (Blk wr ga 3 #[.int .i64 x, .int .i64 y]) ∧ Hid (v'.ownBlock ≠ some ga)) (fun vi _ => 2 - (intOf vi).toNat)
  case atStart => exact ⟨0, v, by omega, rfl, by simpa using H0, HA0, HV0⟩
  case round =>
    obtain ⟨j, v', hj, rfl, HP, HA, HV⟩ := hrel
    by_cases hlt : j < 2
    · obtain rfl | rfl : j = 0 ∨ j = 1 := by omega
      · obtain ⟨M, hM⟩ : ∃ M, M = L ++ ([x, y].take 0).map Lib.itoa := ⟨_, rfl⟩
        have HE := Lib.hid (show M ++ [Lib.itoa x] = L ++ ([x, y].take (0 + 1)).map Lib.itoa by rw [hM]; simp)
        have hml : M.length ≤ 101 := by rw [hM]; simp; omega
        rw [← hM] at HP
        have hmx : M.length + 1 ≤ maxLen := by simp [maxLen]; omega
        have hby : (M.length + 1) * 16 ≤ 140737488355328 := by omega
        clear hM
        clear hlt
        obtain ⟨k0, k1⟩ := bl_c2 HA.out
        have HP1 := Lib.hid (HP.out.below (w1 := wr.drew) (below_drewN (Below.refl _ _) 1))
        have HA1 : Hid (Blk wr.drew ga 3 #[.int .i64 x, .int .i64 y]) := HA
        have HI := Lib.hid (itoa_any x hx wr.drew HP1.out.en)
        have hgl := HP.out.cell.lt
        have hal := HA.out.lt
        have hsz := HP.out.size
        have kg : wr.cell? ⟨g, 0, none⟩ = some v' := HP.out.cell.cell 0
        have hne := hga
        go_wp2_with fail
        go_region_law (first
          | (refine step_appT rfl _ _ 58 rfl base 9 1 16 elem_st v' _ _ (by simp [Act.eval]) (World.ownsRow.alloc HPW.out.row _) (W'.heap.size + 1) (some ⟨W'.heap.size, 0, none⟩) 1 1 (strs [Lib.itoa x]) (by simp [Act.eval]) (rd_newT _ _ _ 1 rfl rfl _ rfl) (strs_one _) hmx hby hbs ?_; intro v4 W4 hown4 hbel4 hgrow hat; obtain ⟨A4, c4, rfl⟩ := own_shape hown4; have kg4 : W4.cell? ⟨g, 0, none⟩ = some v' := (blk_grown (HPW.out.cell.alloc _) hgrow HPW.out.ap).cell 0; have fg4 := (blk_grown (HPW.out.cell.alloc _) hgrow HPW.out.ap).frozen 0)
          | (go_simp; go_at_call 29; refine HI.out.mono ?_; rintro e W' ⟨rfl, hbW⟩; have HPW := Lib.hid (HP1.out.below hbW); have HAW := Lib.hid (HA1.out.below hbW HA1.out.lt); have hbs : base ≤ (W'.alloc (.cells #[.string (bs (Lib.itoa x))] 9)).heap.size := Nat.le_trans HPW.out.size (by simp); have kgW : W'.cell? ⟨g, 0, none⟩ = some v' := HPW.out.cell.cell 0; have hgW := HPW.out.cell.lt))
        all_goals
          have HN := Lib.hid ((HPW.out.below ((Below.refl _ _).alloc (Nat.le_refl _) _)).add hown4 hbel4 hgrow hat)
          rw [HE.out] at HN
          have HAN := Lib.hid (fun u => (blk_grown (HAW.out.alloc _) hgrow HV.out).far (p := ⟨g, 0, none⟩) hne u)
          have HVN := Lib.hid (ap_add HV.out (HAW.out.alloc _).lt hat)
          go_wp2_with fail
          go_roundw
          case rel => exact ⟨0 + 1, _, by omega, by go_num, HN, Lib.hid (HAN.out _), HVN⟩
          case measure => simp [intOf]
      · obtain ⟨M, hM⟩ : ∃ M, M = L ++ ([x, y].take 1).map Lib.itoa := ⟨_, rfl⟩
        have HE := Lib.hid (show M ++ [Lib.itoa y] = L ++ ([x, y].take (1 + 1)).map Lib.itoa by rw [hM]; simp)
        have hml : M.length ≤ 101 := by rw [hM]; simp; omega
        rw [← hM] at HP
        have hmx : M.length + 1 ≤ maxLen := by simp [maxLen]; omega
        have hby : (M.length + 1) * 16 ≤ 140737488355328 := by omega
        clear hM
        clear hlt
        obtain ⟨k0, k1⟩ := bl_c2 HA.out
        have HP1 := Lib.hid (HP.out.below (w1 := wr.drew) (below_drewN (Below.refl _ _) 1))
        have HA1 : Hid (Blk wr.drew ga 3 #[.int .i64 x, .int .i64 y]) := HA
        have HI := Lib.hid (itoa_any y hy wr.drew HP1.out.en)
        have hgl := HP.out.cell.lt
        have hal := HA.out.lt
        have hsz := HP.out.size
        have kg : wr.cell? ⟨g, 0, none⟩ = some v' := HP.out.cell.cell 0
        have hne := hga
        go_wp2_with fail
        go_region_law (first
          | (refine step_appT rfl _ _ 58 rfl base 9 1 16 elem_st v' _ _ (by simp [Act.eval]) (World.ownsRow.alloc HPW.out.row _) (W'.heap.size + 1) (some ⟨W'.heap.size, 0, none⟩) 1 1 (strs [Lib.itoa y]) (by simp [Act.eval]) (rd_newT _ _ _ 1 rfl rfl _ rfl) (strs_one _) hmx hby hbs ?_; intro v4 W4 hown4 hbel4 hgrow hat; obtain ⟨A4, c4, rfl⟩ := own_shape hown4; have kg4 : W4.cell? ⟨g, 0, none⟩ = some v' := (blk_grown (HPW.out.cell.alloc _) hgrow HPW.out.ap).cell 0; have fg4 := (blk_grown (HPW.out.cell.alloc _) hgrow HPW.out.ap).frozen 0)
          | (go_simp; go_at_call 29; refine HI.out.mono ?_; rintro e W' ⟨rfl, hbW⟩; have HPW := Lib.hid (HP1.out.below hbW); have HAW := Lib.hid (HA1.out.below hbW HA1.out.lt); have hbs : base ≤ (W'.alloc (.cells #[.string (bs (Lib.itoa y))] 9)).heap.size := Nat.le_trans HPW.out.size (by simp); have kgW : W'.cell? ⟨g, 0, none⟩ = some v' := HPW.out.cell.cell 0; have hgW := HPW.out.cell.lt))
        all_goals
          have HN := Lib.hid ((HPW.out.below ((Below.refl _ _).alloc (Nat.le_refl _) _)).add hown4 hbel4 hgrow hat)
          rw [HE.out] at HN
          have HAN := Lib.hid (fun u => (blk_grown (HAW.out.alloc _) hgrow HV.out).far (p := ⟨g, 0, none⟩) hne u)
          have HVN := Lib.hid (ap_add HV.out (HAW.out.alloc _).lt hat)
          go_wp2_with fail
          go_roundw
          case rel => exact ⟨1 + 1, _, by omega, by go_num, HN, Lib.hid (HAN.out _), HVN⟩
          case measure => simp [intOf]
    · obtain rfl : j = 2 := by omega
      go_wp2_with fail
      go_end0
      exact ⟨rfl, v', by simpa using HP.out⟩
end Go.Proofs.YtockodmbhnlheaaDoor
