/- Crosses, turns, spans that overlap, segments that meet: what these calls answer. -/
import Derived.Test.YtigcbldbolablaaA0
namespace Go.Proofs.Ytigcbldbolablaa
open Go.RowKit

def crs (ax ay bx b_y px py : Int) : Int := wrap64 (wrap64 (wrap64 (bx - ax) * wrap64 (py - ay)) - wrap64 (wrap64 (b_y - ay) * wrap64 (px - ax)))
def sgn (n : Int) : Int := if n < 0 then -1 else if n > 0 then 1 else 0
def trn (ax ay bx b_y px py : Int) : Int := sgn (crs ax ay bx b_y px py)

set_option maxHeartbeats 400000 in
theorem cross_any (ax ay bx b_y px py : Int) (w : World) :
    Calls Try.prog 90 #[.agg #[.int .i64 ax, .int .i64 ay], .agg #[.int .i64 bx, .int .i64 b_y], .agg #[.int .i64 px, .int .i64 py]] w fun e w' => e = .returned (.int .i64 (crs ax ay bx b_y px py)) ∧ Below w.heap.size w w' := by
  go_enter Try.func90, Try.ntmps90
  go_wp2
  go_ret
  exact ⟨rfl, ((((Below.refl _ _).alloc (Nat.le_refl _) _).alloc (by simp) _).alloc (by simp; omega) _)⟩

theorem compare_any (a b : Int) (w : World) : Calls Try.prog 89 #[.int .i64 a, .int .i64 b] w fun e w' => e = .returned (.int .i64 (sgn (a - b))) ∧ w = w' := by
  rcases Int.lt_trichotomy a b with h | h | h
  · go_enter Try.func89, Try.ntmps89
    go_wp2
    go_ret
    exact ⟨ret_int (by simp [sgn]; omega), rfl⟩
  · subst h
    go_enter Try.func89, Try.ntmps89
    go_wp2
    go_ret
    exact ⟨ret_int (by simp [sgn]), rfl⟩
  · go_enter Try.func89, Try.ntmps89
    go_wp2
    go_ret
    exact ⟨ret_int (by simp [sgn]; omega), rfl⟩

set_option maxHeartbeats 400000 in
theorem turn_any (ax ay bx b_y px py : Int) (w : World) :
    Calls Try.prog 70 #[.agg #[.int .i64 ax, .int .i64 ay], .agg #[.int .i64 bx, .int .i64 b_y], .agg #[.int .i64 px, .int .i64 py]] w fun e w' => e = .returned (.int .i64 (trn ax ay bx b_y px py)) ∧ Below w.heap.size w w' := by
  go_enter Try.func70, Try.ntmps70
  go_wp2_with (first | (go_at_call 90; refine (cross_any _ _ _ _ _ _ _).mono ?_; rintro e w1 ⟨rfl, hb1⟩) | (go_at_call 89; refine (compare_any _ _ _).mono ?_; rintro e w2 ⟨rfl, rfl⟩))
  go_ret
  exact ⟨ret_int (by simp [trn]), below_then ((((Below.refl _ _).alloc (Nat.le_refl _) _).alloc (by simp) _).alloc (by simp; omega) _) (by simp; omega) hb1⟩

def ovr (a b c d : Int) : Bool := decide (max a b ≥ min c d) && decide (max c d ≥ min a b)
theorem ovr_eq {a b c d : Int} {r : Bool} (h : (r = true) ↔ (max a b ≥ min c d ∧ max c d ≥ min a b)) : r = ovr a b c d := by
  rw [Bool.eq_iff_iff, h]; simp [ovr]
set_option maxHeartbeats 400000 in
theorem over_any (a b c d : Int) (r : Bool) (hr : ovr a b c d = r) (w : World) :
    Calls Try.prog 71 #[.int .i64 a, .int .i64 b, .int .i64 c, .int .i64 d] w fun e w' => e = .returned (.bool r) ∧ w = w' := by
  subst hr
  go_enter Try.func71, Try.ntmps71
  go_wp2
  all_goals
    go_ret
    refine ⟨ret_bool (ovr_eq ?_), rfl⟩
    simp
    try omega

def mt (ax ay bx b_y cx cy dx dy : Int) : Bool :=
  ovr ax bx cx dx && ovr ay b_y cy dy && decide (wrap64 (trn ax ay bx b_y cx cy * trn ax ay bx b_y dx dy) ≤ 0) && decide (wrap64 (trn cx cy dx dy ax ay * trn cx cy dx dy bx b_y) ≤ 0)

theorem over_later {w : World} {n : Later w} (a b c d : Int) (r : Bool) (hr : ovr a b c d = r) :
    Calls Try.prog 71 #[.int .i64 a, .int .i64 b, .int .i64 c, .int .i64 d] (lat w n) fun e w'' => e = .returned (.bool r) ∧ ∃ m : Later w, w'' = lat w m :=
  later_of ((over_any a b c d r hr _).mono fun _ _ ⟨h, e⟩ => ⟨h, e ▸ Below.refl _ _⟩)
theorem turn_later {w : World} {n : Later w} (ax ay bx b_y px py : Int) :
    Calls Try.prog 70 #[.agg #[.int .i64 ax, .int .i64 ay], .agg #[.int .i64 bx, .int .i64 b_y], .agg #[.int .i64 px, .int .i64 py]] (lat w n) fun e w'' => e = .returned (.int .i64 (trn ax ay bx b_y px py)) ∧ ∃ m : Later w, w'' = lat w m :=
  later_of (turn_any ax ay bx b_y px py _)

set_option maxHeartbeats 4000000 in
theorem meet_any (ax ay bx b_y cx cy dx dy : Int) (w : World) :
    Calls Try.prog 93 #[.agg #[.int .i64 ax, .int .i64 ay], .agg #[.int .i64 bx, .int .i64 b_y], .agg #[.int .i64 cx, .int .i64 cy], .agg #[.int .i64 dx, .int .i64 dy]] w fun e w' => e = .returned (.bool (mt ax ay bx b_y cx cy dx dy)) ∧ Below w.heap.size w w' := by
  cases h1 : ovr ax bx cx dx with
  | false =>
    have H1 := hid h1
    have hmt : mt ax ay bx b_y cx cy dx dy = false := by simp [mt, h1]
    rw [hmt]
    clear h1 hmt
    go_enter Try.func93, Try.ntmps93
    go_wp2_with fail
    refine wp_region_later_lit (by kernel_rfl) (by kernel_rfl) ?_
    repeat (go_big_quiet_step (first | exact turn_later _ _ _ _ _ _ | exact over_later _ _ _ _ _ H1.out))
    refine wpQuiet_nil ?_
    rintro _ ⟨nq, rfl⟩
    go_wp2
    go_ret
    exact ⟨rfl, below_then (((((Below.refl _ _).alloc (Nat.le_refl _) _).alloc (by simp) _).alloc (by simp; omega) _).alloc (by simp; omega) _) (by simp; omega) (lat_below _ nq)⟩
  | true =>
  cases h2 : ovr ay b_y cy dy with
  | false =>
    have H1 := hid h1
    have H2 := hid h2
    have hmt : mt ax ay bx b_y cx cy dx dy = false := by simp [mt, h2]
    rw [hmt]
    clear h1 h2 hmt
    go_enter Try.func93, Try.ntmps93
    go_wp2_with fail
    refine wp_region_later_lit (by kernel_rfl) (by kernel_rfl) ?_
    repeat (go_big_quiet_step (first | exact turn_later _ _ _ _ _ _ | exact over_later _ _ _ _ _ H1.out | exact over_later _ _ _ _ _ H2.out))
    refine wpQuiet_nil ?_
    rintro _ ⟨nq, rfl⟩
    go_wp2
    go_ret
    exact ⟨rfl, below_then (((((Below.refl _ _).alloc (Nat.le_refl _) _).alloc (by simp) _).alloc (by simp; omega) _).alloc (by simp; omega) _) (by simp; omega) (lat_below _ nq)⟩
  | true =>
  cases h3 : decide (wrap64 (trn ax ay bx b_y cx cy * trn ax ay bx b_y dx dy) ≤ 0) with
  | false =>
    have H1 := hid h1
    have H2 := hid h2
    have hmt : mt ax ay bx b_y cx cy dx dy = false := by simp [mt, h3]
    rw [hmt]
    clear h1 h2 hmt
    go_enter Try.func93, Try.ntmps93
    go_wp2_with fail
    refine wp_region_later_lit (by kernel_rfl) (by kernel_rfl) ?_
    repeat (go_big_quiet_step (first | exact turn_later _ _ _ _ _ _ | exact over_later _ _ _ _ _ H1.out | exact over_later _ _ _ _ _ H2.out))
    refine wpQuiet_nil ?_
    rintro _ ⟨nq, rfl⟩
    go_wp2
    go_ret
    exact ⟨rfl, below_then (((((Below.refl _ _).alloc (Nat.le_refl _) _).alloc (by simp) _).alloc (by simp; omega) _).alloc (by simp; omega) _) (by simp; omega) (lat_below _ nq)⟩
  | true =>
    have H1 := hid h1
    have H2 := hid h2
    have hmt : mt ax ay bx b_y cx cy dx dy = decide (wrap64 (trn cx cy dx dy ax ay * trn cx cy dx dy bx b_y) ≤ 0) := by simp only [mt, h1, h2, h3, Bool.true_and]
    rw [hmt]
    clear h1 h2 hmt
    go_enter Try.func93, Try.ntmps93
    go_wp2_with fail
    refine wp_region_later_lit (by kernel_rfl) (by kernel_rfl) ?_
    repeat (go_big_quiet_step (first | exact turn_later _ _ _ _ _ _ | exact over_later _ _ _ _ _ H1.out | exact over_later _ _ _ _ _ H2.out))
    refine wpQuiet_nil ?_
    rintro _ ⟨nq, rfl⟩
    go_wp2
    go_ret
    exact ⟨rfl, below_then (((((Below.refl _ _).alloc (Nat.le_refl _) _).alloc (by simp) _).alloc (by simp; omega) _).alloc (by simp; omega) _) (by simp; omega) (lat_below _ nq)⟩
end Go.Proofs.Ytigcbldbolablaa
