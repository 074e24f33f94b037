/-
  match.Take.
-/
import Derived.Test.YtockodmbhnlheaaFill
namespace Go.Proofs.Ytockodmbhnlheaa
open Go.RowKit

/-- the taking, so far: what is left of the other side M, the fills fs, how much is left. -/
structure Tk (w wr : World) (base : Nat) (B1 : Array Value) (o : Od) (Lo L0 M : List Od) (fs : List Fl) (left : Int) (NX : Nat) (vf vo vx : Value) : Prop where
  bel : Below w.heap.size w wr
  one : Blk wr w.heap.size 62 B1
  two : Blk wr (w.heap.size + 1) 71 #[.int .i64 o.id, .int .i64 o.acc, .int .i64 o.side, .int .i64 o.price, .int .i64 o.qty]
  three : Blk wr (w.heap.size + 1 + 1) 62 #[.slice none 0 0, .slice none 0 0]
  low : w.heap.size + 1 + 1 < base
  high : base ≤ wr.heap.size
  rowO : wr.ownsRow base 71 5 vo Lo.length (odCells Lo)
  rowX : wr.ownsRow base 71 5 vx NX (odCells M)
  lenX : M.length = NX
  rowF : wr.ownsRow base 87 7 vf fs.length (flCells fs)
  ox : ∀ k, vo.ownBlock = some k → vx.ownBlock ≠ some k
  fo : ∀ k, vo.ownBlock = some k → vf.ownBlock ≠ some k
  fx : ∀ k, vx.ownBlock = some k → vf.ownBlock ≠ some k
  side : SideOk (-o.side) M
  take : takeL o o.qty L0 = ((takeL o left M).1, fs ++ (takeL o left M).2.1, (takeL o left M).2.2)
  left_ : 0 ≤ left ∧ left ≤ o.qty
  cnt : fs.length + M.length ≤ 40 ∨ left = 0 ∧ fs.length + M.length ≤ 41
theorem Tk.below {w wr w1 : World} {base : Nat} {B1 : Array Value} {o : Od} {Lo L0 M : List Od} {fs : List Fl} {left : Int} {NX : Nat} {vf vo vx : Value} (h : Tk w wr base B1 o Lo L0 M fs left NX vf vo vx) (hb : Below wr.heap.size wr w1) : Tk w w1 base B1 o Lo L0 M fs left NX vf vo vx :=
  ⟨h.bel.trans (hb.mono h.bel.size), h.one.below hb h.one.lt, h.two.below hb h.two.lt, h.three.below hb h.three.lt, h.low, Nat.le_trans h.high hb.size, own_below h.rowO hb (Nat.le_refl _), own_below h.rowX hb (Nat.le_refl _), h.lenX, own_below h.rowF hb (Nat.le_refl _), h.ox, h.fo, h.fx, h.side, h.take, h.left_, h.cnt⟩

/-- one more fill: part of the first one. -/
theorem tk_part {o x : Od} {l L0 : List Od} {fs : List Fl} {left : Int} (h : takeL o o.qty L0 = ((takeL o left (x :: l)).1, fs ++ (takeL o left (x :: l)).2.1, (takeL o left (x :: l)).2.2)) (h1 : 0 < left) (h2 : crossesB o x.price = true) (h3 : x.acc ≠ o.acc) (h4 : left < x.qty) :
    takeL o o.qty L0 = ((takeL o 0 ({ x with qty := x.qty - left } :: l)).1, (fs ++ [fillOf o x left]) ++ (takeL o 0 ({ x with qty := x.qty - left } :: l)).2.1, (takeL o 0 ({ x with qty := x.qty - left } :: l)).2.2) := by
  rw [h, takeL_zero]
  have e : takeL o left (x :: l) = ({ x with qty := x.qty - left } :: l, [fillOf o x left], 0, false) := by
    conv => lhs; unfold takeL
    rw [if_neg (by omega), if_neg (by rw [h2]; simp), if_neg h3, if_pos h4]
  rw [e]; simp
theorem tk_all {o x : Od} {l L0 : List Od} {fs : List Fl} {left : Int} (h : takeL o o.qty L0 = ((takeL o left (x :: l)).1, fs ++ (takeL o left (x :: l)).2.1, (takeL o left (x :: l)).2.2)) (h1 : 0 < left) (h2 : crossesB o x.price = true) (h3 : x.acc ≠ o.acc) (h4 : x.qty ≤ left) :
    takeL o o.qty L0 = ((takeL o (left - x.qty) l).1, (fs ++ [fillOf o x x.qty]) ++ (takeL o (left - x.qty) l).2.1, (takeL o (left - x.qty) l).2.2) := by
  rw [h]
  have e : takeL o left (x :: l) = ((takeL o (left - x.qty) l).1, fillOf o x x.qty :: (takeL o (left - x.qty) l).2.1, (takeL o (left - x.qty) l).2.2) := by
    conv => lhs; unfold takeL
    rw [if_neg (by omega), if_neg (by rw [h2]; simp), if_neg h3, if_neg (by omega)]
  rw [e]; simp
theorem tk_end {o : Od} {M L0 : List Od} {fs : List Fl} {left : Int} (h : takeL o o.qty L0 = ((takeL o left M).1, fs ++ (takeL o left M).2.1, (takeL o left M).2.2)) (he : left ≤ 0 ∨ M = [] ∨ ∃ x l, M = x :: l ∧ crossesB o x.price = false) : takeL o o.qty L0 = (M, fs, left, false) := by
  rw [h]
  have e : takeL o left M = (M, [], left, false) := by
    rcases he with he | rfl | ⟨x, l, rfl, hc⟩
    · cases M with
      | nil => rfl
      | cons x l => unfold takeL; rw [if_pos he]
    · rfl
    · unfold takeL
      split
      · rfl
      · rfl
  rw [e]; simp
theorem tk_met {o x : Od} {l L0 : List Od} {fs : List Fl} {left : Int} (h : takeL o o.qty L0 = ((takeL o left (x :: l)).1, fs ++ (takeL o left (x :: l)).2.1, (takeL o left (x :: l)).2.2)) (h1 : 0 < left) (h2 : crossesB o x.price = true) (h3 : x.acc = o.acc) : takeL o o.qty L0 = (x :: l, fs, left, true) := by
  rw [h]
  have e : takeL o left (x :: l) = (x :: l, [], left, true) := by unfold takeL; rw [if_neg (by omega), if_neg (by rw [h2]; simp), if_pos h3]
  rw [e]; simp

theorem head_c {w : World} {g : Nat} {t : TypeId} {x : Od} {l : List Od} {sp : List Value} (h : Blk w g t (odCells (x :: l) ++ sp).toArray) :
    (w.cell? ⟨g, 0, none⟩ = some (.int .i64 x.id) ∧ w.cell? ⟨g, 1, none⟩ = some (.int .i64 x.acc) ∧ w.cell? ⟨g, 2, none⟩ = some (.int .i64 x.side) ∧ w.cell? ⟨g, 3, none⟩ = some (.int .i64 x.price) ∧ w.cell? ⟨g, 4, none⟩ = some (.int .i64 x.qty)) ∧
      w.frozen? ⟨g, 0, none⟩ = false ∧ w.frozen? ⟨g, 1, none⟩ = false ∧ w.frozen? ⟨g, 2, none⟩ = false ∧ w.frozen? ⟨g, 3, none⟩ = false ∧ w.frozen? ⟨g, 4, none⟩ = false :=
  ⟨⟨h.cell 0, h.cell 1, h.cell 2, h.cell 3, h.cell 4⟩, h.frozen 0, h.frozen 1, h.frozen 2, h.frozen 3, h.frozen 4⟩
theorem row_cons {w : World} {base m c : Nat} {A : Option Addr} {x : Od} {l : List Od} (h : w.ownsRow base 71 5 (.slice A (m + 1) c) (m + 1) (odCells (x :: l))) :
    ∃ g sp, A = some ⟨g, 0, none⟩ ∧ base ≤ g ∧ Blk w g 71 (odCells (x :: l) ++ sp).toArray ∧ l.length = m ∧ m + 1 ≤ c ∧ c ≤ maxLen ∧ sp.length = (c - (m + 1)) * 5 := by
  obtain ⟨hl, ⟨_, h0⟩ | ⟨g, cap, cur, hv, hbg, hg, hnc, hcm, hcs, hct⟩⟩ := h
  · omega
  · injection hv with e1 _ e3
    subst e1 e3
    obtain ⟨sp, e1, e2, e3⟩ := rows_of_cur (L := x :: l) (cur := cur.toList) (by rw [Array.length_toList]; exact hcs) hnc hct
    have hgb : Blk w g 71 cur.toList.toArray := by rw [Array.toArray_toList]; exact hg
    rw [e1] at hgb
    exact ⟨g, sp, rfl, hbg, hgb, by simpa using e2, hnc, hcm, e3⟩
theorem wp_name {P : Program} {c : Code} {Q : Exit → Act → World → Prop} {a : Act} {W : World} (h : ∀ Z, Z = W → Code.wp P c Q a Z) : Code.wp P c Q a W := h W rfl
theorem only_alloc_drew (w : World) (ob : Obj) (b : Option Nat) : Only w ((w.alloc ob).drew) b := fun k hk _ => Below.heap_alloc w ob k hk
theorem only_trans {w w1 w2 : World} {b : Option Nat} (h : Only w w1 b) (hs : w.heap.size ≤ w1.heap.size) (g : Only w1 w2 b) : Only w w2 b := fun k hk hn => (g k (by omega) hn).trans (h k hk hn)
theorem Rd.drew1 {w : World} {B k n c : Nat} {A : Option Addr} {xs : List Value} (h : Rd w B k A n c xs) : Rd w.drew B k A n c xs := h.drewN 1
theorem delete_first (base : Nat) (v : Value) (n : Nat) (x : Od) (L : List Od) (w : World) (hown : w.ownsRow base 71 5 v n (odCells (x :: L))) (hb : base ≤ w.heap.size) (hi : 0 < n) :
    Calls Try.prog 65 #[v, .int .i64 0, .int .i64 1] w fun e w' => ∃ v', e = .returned v' ∧ w'.ownsRow base 71 5 v' (n - 1) (odCells L) ∧ v'.ownBlock = v.ownBlock ∧ Below base w w' ∧ Only w w' v.ownBlock :=
  delete_od base v n 0 (x :: L) w hown hb hi
theorem Blk.only {w w' : World} {g : Nat} {t : TypeId} {cs : Array Value} {b : Option Nat} (h : Blk w g t cs) (ho : Only w w' b) (hne : some g ≠ b) : Blk w' g t cs := (ho g h.lt hne).trans h
theorem side_part {s : Int} {o x : Od} {l : List Od} {left : Int} (h : SideOk s (x :: l)) (h1 : 0 < left) (h2 : crossesB o x.price = true) (h3 : x.acc ≠ o.acc) (h4 : left < x.qty) : SideOk s ({ x with qty := x.qty - left } :: l) := by
  have := (takeL_side (o := o) (left := left) h).1
  unfold takeL at this
  rw [if_neg (by omega), if_neg (by rw [h2]; simp), if_neg h3, if_pos h4] at this
  exact this
theorem tk_eq {o x : Od} {l L0 : List Od} {fs : List Fl} (h : takeL o o.qty L0 = ((takeL o x.qty (x :: l)).1, fs ++ (takeL o x.qty (x :: l)).2.1, (takeL o x.qty (x :: l)).2.2)) (h1 : 0 < x.qty) (h2 : crossesB o x.price = true) (h3 : x.acc ≠ o.acc) :
    takeL o o.qty L0 = ((takeL o 0 l).1, (fs ++ [fillOf o x x.qty]) ++ (takeL o 0 l).2.1, (takeL o 0 l).2.2) := by
  have := tk_all h h1 h2 h3 (Int.le_refl _)
  rw [Int.sub_self] at this
  exact this
theorem set4 (x : Od) (l : List Od) (sp : List Value) (q : Int) : (odCells (x :: l) ++ sp).toArray.setIfInBounds 4 (.int .i64 q) = (odCells ({ x with qty := q } :: l) ++ sp).toArray := by
  simp [odCells]
theorem row_mk {w : World} {base g n c : Nat} {M : List Od} {sp : List Value} (h : Blk w g 71 (odCells M ++ sp).toArray) (hb : base ≤ g) (hn : M.length = n) (hnc : n ≤ c) (hc : c ≤ maxLen) (hs : sp.length = (c - n) * 5) : w.ownsRow base 71 5 (.slice (some ⟨g, 0, none⟩) n c) n (odCells M) := by
  refine ⟨by rw [odCells_len, hn], .inr ⟨g, c, _, rfl, hb, h, hnc, hc, ?_, ?_⟩⟩
  · rw [List.size_toArray, List.length_append, odCells_len, hs, hn]; omega
  · rw [List.toList_toArray, List.take_append_of_le_length (by rw [odCells_len, hn]; exact Nat.le_refl _), List.take_of_length_le (by rw [odCells_len, hn]; exact Nat.le_refl _)]
def RetTake (w : World) (r : Bk × List Fl × Int × Bool × Int) (e : Ending) (w' : World) : Prop :=
  ∃ A c A' c' vf, e = .returned (.tuple #[.agg #[.slice A r.1.bids.length c, .slice A' r.1.asks.length c'], vf, .int .i64 r.2.2.1, .bool r.2.2.2.1, .int .i64 r.2.2.2.2]) ∧ OBk w' w.heap.size A A' c c' r.1 ∧ w'.ownsRow w.heap.size 87 7 vf r.2.1.length (flCells r.2.1) ∧
    (∀ k, (Value.slice A r.1.bids.length c).ownBlock = some k → (Value.slice A' r.1.asks.length c').ownBlock ≠ some k) ∧ Below w.heap.size w w'
theorem retTake_mk {w w' : World} {r : Bk × List Fl × Int × Bool × Int} {x : Bk} {l : List Fl} {left : Int} {met : Bool} {n : Int} {A A' : Option Addr} {c c' n1 n2 n3 : Nat} {vf : Value} (h : r = (x, l, left, met, n)) (h1 : x.bids.length = n1) (h2 : x.asks.length = n2) (ho1 : w'.ownsRow w.heap.size 71 5 (.slice A n1 c) n1 (odCells x.bids)) (ho2 : w'.ownsRow w.heap.size 71 5 (.slice A' n2 c') n2 (odCells x.asks))
    (h3 : l.length = n3) (hf : w'.ownsRow w.heap.size 87 7 vf n3 (flCells l)) (ha : ∀ k, (Value.slice A n1 c).ownBlock = some k → (Value.slice A' n2 c').ownBlock ≠ some k) (hb : Below w.heap.size w w') :
    RetTake w r (.returned (.tuple #[.agg #[.slice A n1 c, .slice A' n2 c'], vf, .int .i64 left, .bool met, .int .i64 n])) w' := by subst h h1 h2 h3; exact ⟨A, c, A', c', vf, rfl, ⟨ho1, ho2⟩, hf, ha, hb⟩
theorem obk_zero (w : World) (base : Nat) : OBk w base none none 0 0 zeroBk := ⟨World.ownsRow_nil _ _ _ _, World.ownsRow_nil _ _ _ _⟩
theorem take_side (o : Od) (b : Bk) : (o.side = 1 → otherOf b o.side = b.asks ∧ ∀ l, setOther b o.side l = mkA b l) ∧ (o.side ≠ 1 → otherOf b o.side = b.bids ∧ ∀ l, setOther b o.side l = mkB b l) :=
  ⟨fun h => ⟨if_pos h, fun l => if_pos h⟩, fun h => ⟨if_neg h, fun l => if_neg h⟩⟩
end Go.Proofs.Ytockodmbhnlheaa
