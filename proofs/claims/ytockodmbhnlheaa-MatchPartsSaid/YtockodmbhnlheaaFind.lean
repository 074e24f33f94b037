/-
  book.Find, Best.
-/
import Derived.Test.YtockodmbhnlheaaRest
import Derived.Test.YtockodmbhnlheaaDelFunc
namespace Go.Proofs.Ytockodmbhnlheaa
open Go.RowKit

theorem find_at {L : List Od} {id : Int} {j : Nat} (h : (L.take j).all (fun y => !hasId id y) = true) : findO L id = findO (L.drop j) id := by
  conv => lhs; rw [← List.take_append_drop j L]
  unfold findO
  rw [List.find?_append, List.find?_eq_none.2 (fun y hy => by
    rw [List.all_eq_true] at h
    have := h y hy
    simp [hasId] at this
    simpa using this)]
  rfl
theorem find_here {L : List Od} {id : Int} {j : Nat} {x : Od} (hx : L[j]? = some x) (hp : hasId id x = true) (h : (L.take j).all (fun y => !hasId id y) = true) : findO L id = some x := by
  rw [find_at h]
  obtain ⟨h1, h2⟩ := List.getElem?_eq_some_iff.1 hx
  rw [List.drop_eq_getElem_cons h1, h2]
  unfold findO
  rw [List.find?_cons_of_pos (by simpa [hasId] using hp)]
theorem find_none {L : List Od} {id : Int} (h : L.all (fun y => !hasId id y) = true) : findO L id = none := by
  have := find_at (L := L) (id := id) (j := L.length) (by rw [List.take_length]; exact h)
  rw [this, List.drop_length]; rfl

def RetFind (w : World) (r : Od × Int) (e : Ending) (w' : World) : Prop := e = .returned (.tuple #[.agg #[.int .i64 r.1.id, .int .i64 r.1.acc, .int .i64 r.1.side, .int .i64 r.1.price, .int .i64 r.1.qty], .int .i64 r.2]) ∧ Below w.heap.size w w'
theorem retFind_mk {w w' : World} {r : Od × Int} {o : Od} {n : Int} (h : r = (o, n)) (hb : Below w.heap.size w w') : RetFind w r (.returned (.tuple #[.agg #[.int .i64 o.id, .int .i64 o.acc, .int .i64 o.side, .int .i64 o.price, .int .i64 o.qty], .int .i64 n])) w' := by subst h; exact ⟨rfl, hb⟩
theorem post_name {P : Program} {f : Func} {Q : Ending → World → Prop} {x : Exit} {a : Act} {W : World} (h : ∀ Z, Z = W → bodyPost P f Q x a Z) : bodyPost P f Q x a W := h W rfl
theorem calls_name {P : Program} {f : Nat} {args : Array Value} {W : World} {R : Ending → World → Prop} (h : ∀ Z, Z = W → Calls P f args Z R) : Calls P f args W R := h W rfl
theorem odV_eta (o : Od) : (.agg #[.int .i64 o.id, .int .i64 o.acc, .int .i64 o.side, .int .i64 o.price, .int .i64 o.qty] : Value) = .agg #[.int .i64 o.id, .int .i64 o.acc, .int .i64 o.side, .int .i64 o.price, .int .i64 o.qty] := rfl

set_option maxHeartbeats 2000000 in
set_option maxRecDepth 100000 in
theorem find_bk (b : Bk) (id : Int) (A A' : Option Addr) (c c' B : Nat) (w : World) (h : BkR w B A A' c c' b) (hB : B ≤ w.heap.size) (hl : b.bids.length ≤ 4000000000000) (hl' : b.asks.length ≤ 4000000000000) :
    Calls Try.prog 69 #[.agg #[.slice A b.bids.length c, .slice A' b.asks.length c'], .int .i64 id] w (RetFind w (findOf b id)) := by
  have HE := Lib.hid (show findOf b id = if bookErr b ≠ 0 then (zeroOd, bookErr b) else match findO (b.bids ++ b.asks) id with | some o => (o, 0) | none => (zeroOd, 5) from rfl)
  go_enter Try.func69, Try.ntmps69
  go_wp2_with fail
  obtain ⟨w2, hw2⟩ : ∃ x, x = (w.alloc (.cells #[.slice A b.bids.length c, .slice A' b.asks.length c'] 62)).alloc (.cells #[.int .i64 zeroOd.id, .int .i64 zeroOd.acc, .int .i64 zeroOd.side, .int .i64 zeroOd.price, .int .i64 zeroOd.qty] 71) := ⟨_, rfl⟩
  have hb2 : Below w.heap.size w w2 := by rw [hw2]; exact ((Below.refl _ _).alloc (Nat.le_refl _) _).alloc (by simp) _
  have hs2 : w2.heap.size = w.heap.size + 1 + 1 := by rw [hw2]; simp
  have X1 : Blk w2 w.heap.size 62 #[.slice A b.bids.length c, .slice A' b.asks.length c'] := by rw [hw2]; exact (Blk.new w _ _).alloc _
  have X2 : Blk w2 (w.heap.size + 1) 71 #[.int .i64 zeroOd.id, .int .i64 zeroOd.acc, .int .i64 zeroOd.side, .int .i64 zeroOd.price, .int .i64 zeroOd.qty] := by
    have := Blk.new (w.alloc (.cells #[.slice A b.bids.length c, .slice A' b.asks.length c'] 62)) 71 #[.int .i64 zeroOd.id, .int .i64 zeroOd.acc, .int .i64 zeroOd.side, .int .i64 zeroOd.price, .int .i64 zeroOd.qty]
    rw [World.size_alloc] at this
    rw [hw2]; exact this
  simp only [zeroOd] at hw2
  rw [← hw2]
  simp only [zeroOd] at X2
  have hr := h.below (hb2.mono hB)
  clear hw2
  refine (bookCheck_any b A A' c c' B w2 hr.l hr.r (by omega) (by omega) (by omega)).mono ?_
  rintro e w3 ⟨rfl, hb3⟩
  have hs3 := hb3.size
  obtain ⟨⟨kX10, kX11⟩, -⟩ := X1.c2
  obtain ⟨⟨kX20, kX21, kX22, kX23, kX24⟩, fX20, fX21, fX22, fX23, fX24⟩ := X2.c5
  clear kX10 kX11
  replace X1 := X1.below hb3 X1.lt
  obtain ⟨⟨kX10, kX11⟩, -⟩ := X1.c2
  clear kX20 kX21 kX22 kX23 kX24 fX20 fX21 fX22 fX23 fX24
  replace X2 := X2.below hb3 X2.lt
  obtain ⟨⟨kX20, kX21, kX22, kX23, kX24⟩, fX20, fX21, fX22, fX23, fX24⟩ := X2.c5
  have hbw3 := hb2.trans (hb3.mono (by omega))
  have hr3 := hr.below (hb3.mono (by omega))
  clear hb3 hr hb2
  by_cases he : bookErr b = 0
  rotate_left
  · have HE1 := Lib.hid (HE.out.trans (if_pos he))
    have he' : (bookErr b != 0) = true := by simpa using he
    clear he HE
    go_wp2_with fail
    refine bodyPost_ret (v := .tuple #[.agg #[.int .i64 0, .int .i64 0, .int .i64 0, .int .i64 0, .int .i64 0], .int .i64 (bookErr b)]) (by simp [results, Try.results69, go_sem, *]) rfl ?_
    exact retFind_mk (o := zeroOd) HE1.out (Below.setCell (Below.setCell (Below.setCell (Below.setCell (Below.setCell hbw3 (by dsimp only; omega) _) (by dsimp only; omega) _) (by dsimp only; omega) _) (by dsimp only; omega) _) (by dsimp only; omega) _)
  · have HE1 := Lib.hid (HE.out.trans (if_neg (by omega)))
    have HBK := Lib.hid (bookErr_ok.1 he)
    have hlen := HBK.out.len
    rw [he]
    clear he HE
    go_wp2_with fail
    obtain ⟨w4, hw4⟩ : ∃ x, x = w3.alloc (.cells #[.slice A b.bids.length c, .slice A' b.asks.length c'] 60) := ⟨_, rfl⟩
    have hb4 : Below w3.heap.size w3 w4 := by rw [hw4]; exact (Below.refl _ _).alloc (Nat.le_refl _) _
    have hs4 : w4.heap.size = w3.heap.size + 1 := by rw [hw4]; simp
    have X3 : Blk w4 w3.heap.size 60 #[.slice A b.bids.length c, .slice A' b.asks.length c'] := by rw [hw4]; exact Blk.new w3 _ _
    rw [← hw4]
    have hr4 := hr3.below (hb4.mono (by omega))
    clear kX10 kX11
    replace X1 := X1.below hb4 X1.lt
    obtain ⟨⟨kX10, kX11⟩, -⟩ := X1.c2
    clear kX20 kX21 kX22 kX23 kX24 fX20 fX21 fX22 fX23 fX24
    replace X2 := X2.below hb4 X2.lt
    obtain ⟨⟨kX20, kX21, kX22, kX23, kX24⟩, fX20, fX21, fX22, fX23, fX24⟩ := X2.c5
    clear hw4 hr3
    refine (concat_ods A A' b.bids.length c b.asks.length c' b.bids b.asks B w4 hr4.l hr4.r (by omega) w3.heap.size (by omega) X3.c2.1.1 X3.c2.1.2 (by omega)).mono ?_
    rintro e w5 ⟨v, rfl, hown, hb5⟩
    have hs5 := hb5.size
    clear kX10 kX11
    replace X1 := X1.below hb5 X1.lt
    obtain ⟨⟨kX10, kX11⟩, -⟩ := X1.c2
    clear kX20 kX21 kX22 kX23 kX24 fX20 fX21 fX22 fX23 fX24
    replace X2 := X2.below hb5 X2.lt
    obtain ⟨⟨kX20, kX21, kX22, kX23, kX24⟩, fX20, fX21, fX22, fX23, fX24⟩ := X2.c5
    have hbw5 := (hbw3.trans (hb4.mono (by omega))).trans (hb5.mono (by omega))
    obtain ⟨A1, c1, rfl⟩ := own_shape hown
    have hr5 := Rd.of_own hown
    have hle5 := hr5.le
    have hcap5 := hr5.cap
    have HL := Lib.hid (rdo_len hr5)
    have HR5 := Lib.hid hr5
    have HX2 := Lib.hid X2
    clear hb4 hb5 X1 X3 hr4 hown hbw3 hr5 kX10 kX11 kX20 kX21 kX22 kX23 kX24 fX20 fX21 fX22 fX23 fX24 X2
    unfold maxLen at hcap5
    obtain ⟨n1, hn1⟩ : ∃ n, n = b.bids.length + b.asks.length := ⟨_, rfl⟩
    rw [← hn1] at HR5 HL hle5
    rw [← hn1]
    clear hn1
    go_wp2_with fail
    go_loopw [22] (fun i wr => ∃ j : Nat, j ≤ n1 ∧ i = .int .i64 j ∧ Below w5.heap.size w5 wr ∧ Hid (((b.bids ++ b.asks).take j).all (fun y => !hasId id y) = true)) (fun i _ => n1 - (intOf i).toNat)
    case atStart => exact ⟨0, Nat.zero_le _, rfl, Below.refl _ _, rfl⟩
    case round =>
      obtain ⟨j, hj, rfl, hbr, HP⟩ := hrel
      have hws := hbr.size
      have X2 := HX2.out.below hbr HX2.out.lt
      have hbwr := hbw5.trans (hbr.mono (by omega))
      by_cases hlt : j < n1
      · obtain ⟨bb, oo, x, rfl, hbb, hx, k0, k1, k2, k3, k4⟩ := od_at (HR5.out.below hbr) hlt
        have x1 : bb < wr.heap.size := by omega
        have x2 : w.heap.size + 1 < wr.heap.size := by omega
        have HX := Lib.hid hx
        clear hx
        obtain ⟨⟨kX20, kX21, kX22, kX23, kX24⟩, fX20, fX21, fX22, fX23, fX24⟩ := X2.c5
        rcases (bool_cs (hasId id x)).symm with hp | hp
        · have HF := Lib.hid (show findOf b id = (x, 0) by rw [HE1.out, find_here HX.out hp HP.out])
          have hp' : (x.id == id) = true := hp
          clear hp
          go_wp2_with fail
          refine post_name ?_
          intro Z hZ
          have XZ : Blk Z (w.heap.size + 1) 71 #[.int .i64 x.id, .int .i64 x.acc, .int .i64 x.side, .int .i64 x.price, .int .i64 x.qty] := by rw [hZ]; exact (((((X2.set_ 0 _).set_ 1 _).set_ 2 _).set_ 3 _).set_ 4 _).alloc _
          have hbZ : Below w.heap.size w Z := by rw [hZ]; exact (Below.setCell (Below.setCell (Below.setCell (Below.setCell (Below.setCell hbwr (by dsimp only; omega) _) (by dsimp only; omega) _) (by dsimp only; omega) _) (by dsimp only; omega) _) (by dsimp only; omega) _).alloc (by simp; omega) _
          clear hZ kX20 kX21 kX22 kX23 kX24 fX20 fX21 fX22 fX23 fX24 k0 k1 k2 k3 k4
          obtain ⟨⟨kXZ0, kXZ1, kXZ2, kXZ3, kXZ4⟩, -⟩ := XZ.c5
          refine bodyPost_ret (v := .tuple #[.agg #[.int .i64 x.id, .int .i64 x.acc, .int .i64 x.side, .int .i64 x.price, .int .i64 x.qty], .int .i64 0]) (by simp [results, Try.results69, go_sem, *]) rfl ?_
          exact retFind_mk (o := x) HF.out hbZ
        · have HN := Lib.hid (all_next (p := hasId id) HX.out hp HP.out)
          have hp' : (x.id == id) = false := hp
          clear hp
          go_wp2_with fail
          go_roundw
          case rel => exact ⟨j + 1, by omega, by go_num, hbr.alloc (by omega) _, HN⟩
          case measure => simp [intOf]; omega
      · have hjn : j = n1 := by omega
        have HF := Lib.hid (show findOf b id = (zeroOd, 5) by
          rw [HE1.out, find_none (by have := HP.out; rw [hjn, List.take_of_length_le (by rw [HL.out]; exact Nat.le_refl _)] at this; exact this)])
        clear hjn
        obtain ⟨⟨kX20, kX21, kX22, kX23, kX24⟩, fX20, fX21, fX22, fX23, fX24⟩ := X2.c5
        go_wp2_with fail
        refine bodyPost_ret (v := .tuple #[.agg #[.int .i64 0, .int .i64 0, .int .i64 0, .int .i64 0, .int .i64 0], .int .i64 (5)]) (by simp [results, Try.results69, go_sem, *]) rfl ?_
        exact retFind_mk (o := zeroOd) HF.out (Below.setCell (Below.setCell (Below.setCell (Below.setCell (Below.setCell hbwr (by dsimp only; omega) _) (by dsimp only; omega) _) (by dsimp only; omega) _) (by dsimp only; omega) _) (by dsimp only; omega) _)
end Go.Proofs.Ytockodmbhnlheaa
