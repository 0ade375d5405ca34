/- What Touches answers, in one; within's closure. -/
import Derived.Test.YtigcbldbolablaaA13
import Derived.Handy
namespace Go.Proofs.Ytigcbldbolablaa
open Go.RowKit

/-- What Touches answers of a segment and a rectangle. -/
def tB (a b : Pt) (x y : Sp) : Bool :=
  decide (tE a b x y = 0) && (ovr a.x b.x x.lo x.hi && ovr a.y b.y y.lo y.hi) && (decide (lstF a b (crn x y) ≤ 0) && decide (mstF a b (crn x y) ≥ 0))
def av (p : Pt) : Value := .agg #[.int .i64 p.x, .int .i64 p.y]
def sv (s : Sp) : Value := .agg #[.int .i64 s.lo, .int .i64 s.hi]
theorem touches_any (a b : Pt) (x y : Sp) (w : World) :
    Calls Try.prog 80 #[.agg #[.int .i64 a.x, .int .i64 a.y], .agg #[.int .i64 b.x, .int .i64 b.y], .agg #[.int .i64 x.lo, .int .i64 x.hi], .agg #[.int .i64 y.lo, .int .i64 y.hi]] w fun e w' => e = .returned (.tuple #[.bool (tB a b x y), .int .i64 (tE a b x y)]) ∧ Below w.heap.size w w' := by
  cases h1 : badP a || badP b with
  | true =>
    have e1 : tE a b x y = 5 := by unfold tE; rw [h1]; simp
    have e2 : tB a b x y = false := by unfold tB; rw [e1]; simp
    rw [e1, e2]
    exact touches_bad1 a b x y w h1
  | false =>
  cases h2 : (crn x y).any badP with
  | true =>
    have e1 : tE a b x y = 5 := by unfold tE; rw [h1, h2]; simp
    have e2 : tB a b x y = false := by unfold tB; rw [e1]; simp
    rw [e1, e2]
    exact touches_bad2 a b x y w h1 h2
  | false =>
  by_cases h3 : x.lo > x.hi ∨ y.lo > y.hi
  · have e1 : tE a b x y = 1 := by unfold tE; rw [h1, h2, if_neg (by simp), if_pos h3]
    have e2 : tB a b x y = false := by unfold tB; rw [e1]; simp
    rw [e1, e2]
    exact touches_arg a b x y w h1 h2 h3
  · have e1 : tE a b x y = 0 := by unfold tE; rw [h1, h2, if_neg (by simp), if_neg h3]
    rw [e1]
    cases h4 : ovr a.x b.x x.lo x.hi && ovr a.y b.y y.lo y.hi with
    | false =>
      have e2 : tB a b x y = false := by unfold tB; rw [h4]; simp
      rw [e2]
      exact touches_apart a b x y w h1 h2 (by omega) (by omega) h4
    | true =>
      have e2 : tB a b x y = (decide (lstF a b (crn x y) ≤ 0) && decide (mstF a b (crn x y) ≥ 0)) := by unfold tB; rw [h4, e1]; simp
      rw [e2]
      rw [Bool.and_eq_true] at h4
      exact touches_turns a b x y w h1 h2 (by omega) (by omega) h4.1 h4.2

def nxt (l : List Pt) (i : Nat) : Pt := if i + 1 < l.length then npt l (i + 1) else npt l 0
theorem box_pt {w : World} {b : Nat} {x y : Int} {o : Obj} (h : w.cell? ⟨b, 0, none⟩ = some (.int .i64 x) ∧ w.cell? ⟨b, 1, none⟩ = some (.int .i64 y)) : (w.alloc o).cell? ⟨b, 0, none⟩ = some (.int .i64 x) ∧ (w.alloc o).cell? ⟨b, 1, none⟩ = some (.int .i64 y) := ⟨alloc_fact h.1 o, alloc_fact h.2 o⟩

set_option maxHeartbeats 2000000 in
theorem touched_any (bl bn bx b_y : Nat) (c : Nat) (ad : Addr) (l : List Pt) (x y : Sp) (i : Nat) (w : World) (hi : i < l.length) (hm : l.length ≤ 64)
    (hl : w.cell? ⟨bl, 0, none⟩ = some (.slice (some ad) l.length c)) (hr : Pts w (some ad) l) (hn : w.cell? ⟨bn, 0, none⟩ = some (.int .i64 ((l.length : Int) - 1)))
    (hx0 : w.cell? ⟨bx, 0, none⟩ = some (.int .i64 x.lo)) (hx1 : w.cell? ⟨bx, 1, none⟩ = some (.int .i64 x.hi)) (hy0 : w.cell? ⟨b_y, 0, none⟩ = some (.int .i64 y.lo)) (hy1 : w.cell? ⟨b_y, 1, none⟩ = some (.int .i64 y.hi)) :
    Calls Try.prog 79 #[.int .i64 i, .agg #[.int .i64 (npt l i).x, .int .i64 (npt l i).y], .pointer (some ⟨bl, 0, none⟩), .pointer (some ⟨bn, 0, none⟩), .pointer (some ⟨bx, 0, none⟩), .pointer (some ⟨b_y, 0, none⟩)] w fun e w' =>
      e = .returned (.bool (tB (npt l i) (nxt l i) x y)) ∧ Below w.heap.size w w' := by
  have hbl := World.block_lt_of_cell? w _ hl
  have hbn := World.block_lt_of_cell? w _ hn
  have hbx := World.block_lt_of_cell? w _ hx0
  have hby := World.block_lt_of_cell? w _ hy0
  obtain ⟨c0, c1⟩ := hr.nat 0 (by omega)
  have hc0 : w.cell? ad = some (.int .i64 (npt l 0).x) := by simpa [Addr.add] using c0
  have hc1 : w.cell? ⟨ad.block, ad.off + 1, none⟩ = some (.int .i64 (npt l 0).y) := by simpa [Addr.add] using c1
  have hab : ad.block < w.heap.size := by obtain ⟨ad', e, h, _⟩ := hr 0 (by omega); cases e; exact h
  clear c0 c1
  have a0 := alloc_fact hc0
  have a1 := alloc_fact hc1
  by_cases hla : i + 1 < l.length
  · obtain ⟨d0, d1⟩ := hr.nat (i + 1) hla
    have b0 := fun o o' => alloc_fact (alloc_fact d0 o) o'
    have b1 := fun o o' => alloc_fact (alloc_fact d1 o) o'
    clear d0 d1
    have hnx : nxt l i = npt l (i + 1) := if_pos hla
    rw [hnx]
    have HR := hid hr
    clear hr hnx
    generalize npt l (i + 1) = q at *
    generalize npt l i = p at *
    generalize npt l 0 = z at *
    go_enter Try.func79, Try.ntmps79
    go_wp2_with fail
    refine (touches_any p q x y _).mono ?_
    rintro e w1 ⟨rfl, hb1⟩
    have HB := hid (show Below w.heap.size w w1 from below_then (by go_grown) (by simp; omega) hb1)
    go_wp2
    go_ret
    exact ⟨rfl, HB.out⟩
  · have hnx : nxt l i = npt l 0 := if_neg hla
    rw [hnx]
    have HR := hid hr
    clear hr hnx
    generalize npt l i = p at *
    generalize npt l 0 = z at *
    go_enter Try.func79, Try.ntmps79
    go_wp2_with fail
    refine (touches_any p z x y _).mono ?_
    rintro e w1 ⟨rfl, hb1⟩
    have HB := hid (show Below w.heap.size w w1 from below_then (by go_grown) (by simp; omega) hb1)
    go_wp2
    go_ret
    exact ⟨rfl, HB.out⟩
end Go.Proofs.Ytigcbldbolablaa
