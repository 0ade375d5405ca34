/- Whether a segment and a rectangle touch: the refusals. -/
import Derived.Test.YtigcbldbolablaaA11
namespace Go.Proofs.Ytigcbldbolablaa
open Go.RowKit

/-- A span. -/
structure Sp where
  lo : Int
  hi : Int
deriving DecidableEq
def crn (x y : Sp) : List Pt := [⟨x.lo, y.lo⟩, ⟨x.lo, y.hi⟩, ⟨x.hi, y.lo⟩, ⟨x.hi, y.hi⟩]
def tE (a b : Pt) (x y : Sp) : Int := if badP a || badP b || (crn x y).any badP then 5 else if x.lo > x.hi ∨ y.lo > y.hi then 1 else 0
def trnP (a b p : Pt) : Int := trn a.x a.y b.x b.y p.x p.y
def tV (a b : Pt) (x y : Sp) : Bool := ovr a.x b.x x.lo x.hi && ovr a.y b.y y.lo y.hi && (crn x y).any (fun p => decide (trnP a b p ≤ 0)) && (crn x y).any (fun p => decide (trnP a b p ≥ 0))

theorem crn_pts {W : World} {b : Nat} {x y : Sp} (q0 : W.cell? ⟨b, 0, none⟩ = some (.int .i64 x.lo)) (q1 : W.cell? ⟨b, 1, none⟩ = some (.int .i64 y.lo)) (q2 : W.cell? ⟨b, 2, none⟩ = some (.int .i64 x.lo)) (q3 : W.cell? ⟨b, 3, none⟩ = some (.int .i64 y.hi))
    (q4 : W.cell? ⟨b, 4, none⟩ = some (.int .i64 x.hi)) (q5 : W.cell? ⟨b, 5, none⟩ = some (.int .i64 y.lo)) (q6 : W.cell? ⟨b, 6, none⟩ = some (.int .i64 x.hi)) (q7 : W.cell? ⟨b, 7, none⟩ = some (.int .i64 y.hi)) : Pts W (some ⟨b, 0, none⟩) (crn x y) := fun k hk => by
  have hb : b < W.heap.size := World.block_lt_of_cell? W _ q0
  have : k = 0 ∨ k = 1 ∨ k = 2 ∨ k = 3 := by simp [crn] at hk; omega
  rcases this with rfl | rfl | rfl | rfl
  · exact ⟨_, rfl, hb, q0, q1⟩
  · exact ⟨_, rfl, hb, q2, q3⟩
  · exact ⟨_, rfl, hb, q4, q5⟩
  · exact ⟨_, rfl, hb, q6, q7⟩

set_option maxRecDepth 100000 in
set_option maxHeartbeats 2000000 in
theorem touches_bad1 (a b : Pt) (x y : Sp) (w : World) (h : (badP a || badP b) = true) :
    Calls Try.prog 80 #[.agg #[.int .i64 a.x, .int .i64 a.y], .agg #[.int .i64 b.x, .int .i64 b.y], .agg #[.int .i64 x.lo, .int .i64 x.hi], .agg #[.int .i64 y.lo, .int .i64 y.hi]] w fun e w' => e = .returned (.tuple #[.bool false, .int .i64 5]) ∧ Below w.heap.size w w' := by
  have H := hid h
  clear h
  go_enter Try.func80, Try.ntmps80
  go_wp2_with fail
  refine (fits2 a b _ _ (by simp) _ rfl).mono ?_
  rw [H.out]
  rintro e w1 ⟨rfl, hb1⟩
  go_wp2
  go_ret2
  exact ⟨rfl, below_then (((((((Below.refl _ _).alloc (Nat.le_refl _) _).alloc (by simp) _).alloc (by simp; omega) _).alloc (by simp; omega) _).alloc (by simp; omega) _).alloc (by simp; omega) _) (by simp; omega) hb1⟩

set_option maxRecDepth 100000 in
set_option maxHeartbeats 2000000 in
theorem touches_bad2 (a b : Pt) (x y : Sp) (w : World) (h : (badP a || badP b) = false) (h2 : (crn x y).any badP = true) :
    Calls Try.prog 80 #[.agg #[.int .i64 a.x, .int .i64 a.y], .agg #[.int .i64 b.x, .int .i64 b.y], .agg #[.int .i64 x.lo, .int .i64 x.hi], .agg #[.int .i64 y.lo, .int .i64 y.hi]] w fun e w' => e = .returned (.tuple #[.bool false, .int .i64 5]) ∧ Below w.heap.size w w' := by
  have H := hid h
  have H2 := hid h2
  clear h h2
  go_enter Try.func80, Try.ntmps80
  go_wp2_with fail
  refine (fits2 a b _ _ (by simp) _ rfl).mono ?_
  rw [H.out]
  rintro e w1 ⟨rfl, hb1⟩
  obtain ⟨hc, hf⟩ := bcell hb1
  have hsz1 := hb1.size
  simp only [World.size_alloc] at hsz1
  have HB1 := hid (below_then (((((((Below.refl w.heap.size w).alloc (Nat.le_refl _) _).alloc (by simp) _).alloc (by simp; omega) _).alloc (by simp; omega) _).alloc (by simp; omega) _).alloc (by simp; omega) _) (by simp; omega) hb1)
  have p0 : w1.cell? ⟨w.heap.size, 0, none⟩ = some (.int .i64 a.x) := by rw [hc _ _ (by simp <;> omega)]; simp [go_sem]
  have p1 : w1.cell? ⟨w.heap.size, 1, none⟩ = some (.int .i64 a.y) := by rw [hc _ _ (by simp <;> omega)]; simp [go_sem]
  have p2 : w1.cell? ⟨w.heap.size + 1, 0, none⟩ = some (.int .i64 b.x) := by rw [hc _ _ (by simp <;> omega)]; simp [go_sem]
  have p3 : w1.cell? ⟨w.heap.size + 1, 1, none⟩ = some (.int .i64 b.y) := by rw [hc _ _ (by simp <;> omega)]; simp [go_sem]
  have p4 : w1.cell? ⟨w.heap.size + 1 + 1, 0, none⟩ = some (.int .i64 x.lo) := by rw [hc _ _ (by simp <;> omega)]; simp [go_sem]
  have p5 : w1.cell? ⟨w.heap.size + 1 + 1, 1, none⟩ = some (.int .i64 x.hi) := by rw [hc _ _ (by simp <;> omega)]; simp [go_sem]
  have p6 : w1.cell? ⟨w.heap.size + 1 + 1 + 1, 0, none⟩ = some (.int .i64 y.lo) := by rw [hc _ _ (by simp <;> omega)]; simp [go_sem]
  have p7 : w1.cell? ⟨w.heap.size + 1 + 1 + 1, 1, none⟩ = some (.int .i64 y.hi) := by rw [hc _ _ (by simp <;> omega)]; simp [go_sem]
  have q0 : w1.cell? ⟨w.heap.size + 1 + 1 + 1 + 1, 0, none⟩ = some (.int .i64 x.lo) := by rw [hc _ _ (by simp <;> omega)]; simp [go_sem]
  have q1 : w1.cell? ⟨w.heap.size + 1 + 1 + 1 + 1, 1, none⟩ = some (.int .i64 y.lo) := by rw [hc _ _ (by simp <;> omega)]; simp [go_sem]
  have q2 : w1.cell? ⟨w.heap.size + 1 + 1 + 1 + 1, 2, none⟩ = some (.int .i64 x.lo) := by rw [hc _ _ (by simp <;> omega)]; simp [go_sem]
  have q3 : w1.cell? ⟨w.heap.size + 1 + 1 + 1 + 1, 3, none⟩ = some (.int .i64 y.hi) := by rw [hc _ _ (by simp <;> omega)]; simp [go_sem]
  have q4 : w1.cell? ⟨w.heap.size + 1 + 1 + 1 + 1, 4, none⟩ = some (.int .i64 x.hi) := by rw [hc _ _ (by simp <;> omega)]; simp [go_sem]
  have q5 : w1.cell? ⟨w.heap.size + 1 + 1 + 1 + 1, 5, none⟩ = some (.int .i64 y.lo) := by rw [hc _ _ (by simp <;> omega)]; simp [go_sem]
  have q6 : w1.cell? ⟨w.heap.size + 1 + 1 + 1 + 1, 6, none⟩ = some (.int .i64 x.hi) := by rw [hc _ _ (by simp <;> omega)]; simp [go_sem]
  have q7 : w1.cell? ⟨w.heap.size + 1 + 1 + 1 + 1, 7, none⟩ = some (.int .i64 y.hi) := by rw [hc _ _ (by simp <;> omega)]; simp [go_sem]
  clear hc hf hb1
  go_wp2_with fail
  refine (fits_any _ _ (crn x y) _ (crn_pts q0 q1 q2 q3 q4 q5 q6 q7) (by simp [crn])).mono ?_
  rw [H2.out]
  rintro e w2 ⟨rfl, hb2⟩
  go_wp2
  go_ret2
  exact ⟨rfl, HB1.out.trans (hb2.mono (by omega))⟩

set_option maxRecDepth 100000 in
set_option maxHeartbeats 4000000 in
theorem touches_arg (a b : Pt) (x y : Sp) (w : World) (h : (badP a || badP b) = false) (h2 : (crn x y).any badP = false) (h3 : x.lo > x.hi ∨ y.lo > y.hi) :
    Calls Try.prog 80 #[.agg #[.int .i64 a.x, .int .i64 a.y], .agg #[.int .i64 b.x, .int .i64 b.y], .agg #[.int .i64 x.lo, .int .i64 x.hi], .agg #[.int .i64 y.lo, .int .i64 y.hi]] w fun e w' => e = .returned (.tuple #[.bool false, .int .i64 1]) ∧ Below w.heap.size w w' := by
  have H := hid h
  have H2 := hid h2
  clear h h2
  go_enter Try.func80, Try.ntmps80
  go_wp2_with fail
  refine (fits2 a b _ _ (by simp) _ rfl).mono ?_
  rw [H.out]
  rintro e w1 ⟨rfl, hb1⟩
  obtain ⟨hc, hf⟩ := bcell hb1
  have hsz1 := hb1.size
  simp only [World.size_alloc] at hsz1
  have HB1 := hid (below_then (((((((Below.refl w.heap.size w).alloc (Nat.le_refl _) _).alloc (by simp) _).alloc (by simp; omega) _).alloc (by simp; omega) _).alloc (by simp; omega) _).alloc (by simp; omega) _) (by simp; omega) hb1)
  have p0 : w1.cell? ⟨w.heap.size, 0, none⟩ = some (.int .i64 a.x) := by rw [hc _ _ (by simp <;> omega)]; simp [go_sem]
  have p1 : w1.cell? ⟨w.heap.size, 1, none⟩ = some (.int .i64 a.y) := by rw [hc _ _ (by simp <;> omega)]; simp [go_sem]
  have p2 : w1.cell? ⟨w.heap.size + 1, 0, none⟩ = some (.int .i64 b.x) := by rw [hc _ _ (by simp <;> omega)]; simp [go_sem]
  have p3 : w1.cell? ⟨w.heap.size + 1, 1, none⟩ = some (.int .i64 b.y) := by rw [hc _ _ (by simp <;> omega)]; simp [go_sem]
  have p4 : w1.cell? ⟨w.heap.size + 1 + 1, 0, none⟩ = some (.int .i64 x.lo) := by rw [hc _ _ (by simp <;> omega)]; simp [go_sem]
  have p5 : w1.cell? ⟨w.heap.size + 1 + 1, 1, none⟩ = some (.int .i64 x.hi) := by rw [hc _ _ (by simp <;> omega)]; simp [go_sem]
  have p6 : w1.cell? ⟨w.heap.size + 1 + 1 + 1, 0, none⟩ = some (.int .i64 y.lo) := by rw [hc _ _ (by simp <;> omega)]; simp [go_sem]
  have p7 : w1.cell? ⟨w.heap.size + 1 + 1 + 1, 1, none⟩ = some (.int .i64 y.hi) := by rw [hc _ _ (by simp <;> omega)]; simp [go_sem]
  have q0 : w1.cell? ⟨w.heap.size + 1 + 1 + 1 + 1, 0, none⟩ = some (.int .i64 x.lo) := by rw [hc _ _ (by simp <;> omega)]; simp [go_sem]
  have q1 : w1.cell? ⟨w.heap.size + 1 + 1 + 1 + 1, 1, none⟩ = some (.int .i64 y.lo) := by rw [hc _ _ (by simp <;> omega)]; simp [go_sem]
  have q2 : w1.cell? ⟨w.heap.size + 1 + 1 + 1 + 1, 2, none⟩ = some (.int .i64 x.lo) := by rw [hc _ _ (by simp <;> omega)]; simp [go_sem]
  have q3 : w1.cell? ⟨w.heap.size + 1 + 1 + 1 + 1, 3, none⟩ = some (.int .i64 y.hi) := by rw [hc _ _ (by simp <;> omega)]; simp [go_sem]
  have q4 : w1.cell? ⟨w.heap.size + 1 + 1 + 1 + 1, 4, none⟩ = some (.int .i64 x.hi) := by rw [hc _ _ (by simp <;> omega)]; simp [go_sem]
  have q5 : w1.cell? ⟨w.heap.size + 1 + 1 + 1 + 1, 5, none⟩ = some (.int .i64 y.lo) := by rw [hc _ _ (by simp <;> omega)]; simp [go_sem]
  have q6 : w1.cell? ⟨w.heap.size + 1 + 1 + 1 + 1, 6, none⟩ = some (.int .i64 x.hi) := by rw [hc _ _ (by simp <;> omega)]; simp [go_sem]
  have q7 : w1.cell? ⟨w.heap.size + 1 + 1 + 1 + 1, 7, none⟩ = some (.int .i64 y.hi) := by rw [hc _ _ (by simp <;> omega)]; simp [go_sem]
  clear hc hf hb1
  go_wp2_with fail
  refine (fits_any _ _ (crn x y) _ (crn_pts q0 q1 q2 q3 q4 q5 q6 q7) (by simp [crn])).mono ?_
  rw [H2.out]
  rintro e w2 ⟨rfl, hb2⟩
  have hm2 : ∀ (ad : Addr) (v : Value), w1.cell? ad = some v → w2.cell? ad = some v := fun ad v h => (hb2.cell (World.block_lt_of_cell? w1 _ h)).trans h
  have r4 := hm2 _ _ p4
  have r5 := hm2 _ _ p5
  have r6 := hm2 _ _ p6
  have r7 := hm2 _ _ p7
  have HB2 := hid (HB1.out.trans (hb2.mono (by omega)))
  clear hm2 hb2 p0 p1 p2 p3 p4 p5 p6 p7 q0 q1 q2 q3 q4 q5 q6 q7
  by_cases hx : x.hi < x.lo
  · go_wp2
    go_ret2
    exact ⟨rfl, HB2.out⟩
  · have hy : y.hi < y.lo := by omega
    go_wp2
    go_ret2
    exact ⟨rfl, HB2.out⟩
end Go.Proofs.Ytigcbldbolablaa
