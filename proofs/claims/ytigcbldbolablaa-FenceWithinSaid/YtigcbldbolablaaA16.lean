/- Whether a lane lies in a fence. -/
import Derived.Test.YtigcbldbolablaaA15
namespace Go.Proofs.Ytigcbldbolablaa
open Go.RowKit
set_option linter.unusedSimpArgs false

theorem Poly.below {w w1 : World} {A : Option Addr} {l : List Pt} (h : Poly w A l) (hb : Below w.heap.size w w1) : Poly w1 A l := ⟨h.pts.below hb, h.pos, h.few⟩
theorem poly_ok {w : World} {A : Option Addr} {l : List Pt} (h : Pts w A l) (hs : smp l = 0) : Poly w A l := ⟨h, by have := smp_ok hs; omega, (smp_ok hs).2.1⟩
theorem chk_smp {f : Fn} (h : chk f = 0) : smp f.poly = 0 := by
  unfold chk at h
  split at h
  · rename_i h1; exact absurd h h1
  · rename_i h1; exact Decidable.not_not.1 h1
/-- The span of two numbers, with room. -/
def spn (a b r : Int) : Sp := ⟨wrap64 (min a b - r), wrap64 (max a b + r)⟩
theorem span_later {w : World} {n : Later w} (a b r : Int) :
    Calls Try.prog 84 #[.int .i64 a, .int .i64 b, .int .i64 r] (lat w n) fun e w'' => e = .returned (.agg #[.int .i64 (spn a b r).lo, .int .i64 (spn a b r).hi]) ∧ ∃ m : Later w, w'' = lat w m := later_of (span_any a b r _)
theorem within_later {w : World} {n : Later w} (A : Option Addr) (c : Nat) (l : List Pt) (x y : Sp) (hr : Poly w A l) :
    Calls Try.prog 53 #[.slice A l.length c, .agg #[.int .i64 x.lo, .int .i64 x.hi], .agg #[.int .i64 y.lo, .int .i64 y.hi]] (lat w n) fun e w'' => e = .returned (.bool (wthn l x y)) ∧ ∃ m : Later w, w'' = lat w m := later_of (within_any A c l x y _ (hr.below (lat_below w n)))
/-- Is the lane of two points inside? -/
def lnB (l : List Pt) (a b : Pt) (r : Int) : Bool := wthn l (spn a.x b.x (min r 1073741825)) (spn a.y b.y (min r 1073741825))
@[local go_sem] theorem min_lit (k k' : IntKind) (x y : Int) (ats : Array TypeId) (ty : TypeId) : Builtin.min_ ats ty #[.int k x, .int k' y] = pure (.int k (min x y)) := by
  simp only [Builtin.min_, List.foldlM_cons, List.foldlM_nil, Builtin.min2, bind_pure]
  congr 2
  split <;> omega

set_option maxRecDepth 100000 in
set_option maxHeartbeats 2000000 in
theorem lane_in (P : FP) (f : Fn) (a b : Pt) (r : Int) (w : World) (hr : FRd w P f) (hs : smp f.poly = 0) :
    Calls Try.prog 56 #[.agg #[.slice P.A f.poly.length P.c, .int .i64 f.fl, .int .i64 f.ce, .slice P.B f.rl.length P.d], .agg #[.int .i64 a.x, .int .i64 a.y], .agg #[.int .i64 b.x, .int .i64 b.y], .int .i64 r] w fun e w' =>
      e = .returned (.bool (lnB f.poly a b r)) ∧ Below w.heap.size w w' := by
  have HP := hid (poly_ok hr.poly hs)
  have HL := hid (show lnB f.poly a b r = wthn f.poly (spn a.x b.x (min r 1073741825)) (spn a.y b.y (min r 1073741825)) from rfl)
  clear hr hs
  go_enter Try.func56, Try.ntmps56
  go_wp2_with fail
  generalize min r 1073741825 = q at *
  obtain ⟨W, hW⟩ : ∃ W, W = ((w.alloc (.cells #[.slice P.A f.poly.length P.c, .int .i64 f.fl, .int .i64 f.ce, .slice P.B f.rl.length P.d] 24)).alloc (.cells #[.int .i64 a.x, .int .i64 a.y] 39)).alloc (.cells #[.int .i64 b.x, .int .i64 b.y] 39) := ⟨_, rfl⟩
  have hbW : Below w.heap.size w W := by rw [hW]; go_grown
  have u0 := lat_fact (show W.cell? ⟨w.heap.size, 0, none⟩ = some (.slice P.A f.poly.length P.c) by rw [hW]; simp [go_sem])
  have u1 := lat_fact (show W.cell? ⟨w.heap.size + 1, 0, none⟩ = some (.int .i64 a.x) by rw [hW]; simp [go_sem])
  have u2 := lat_fact (show W.cell? ⟨w.heap.size + 1, 1, none⟩ = some (.int .i64 a.y) by rw [hW]; simp [go_sem])
  have u3 := lat_fact (show W.cell? ⟨w.heap.size + 1 + 1, 0, none⟩ = some (.int .i64 b.x) by rw [hW]; simp [go_sem])
  have u4 := lat_fact (show W.cell? ⟨w.heap.size + 1 + 1, 1, none⟩ = some (.int .i64 b.y) by rw [hW]; simp [go_sem])
  rw [← hW]
  have HW := hid hbW
  clear hW hbW
  refine wp_region_later_lit (by kernel_rfl) (by kernel_rfl) ?_
  repeat (go_big_quiet_step (first | exact span_later _ _ _ | exact within_later _ _ _ _ _ (HP.out.below HW.out)))
  refine wpQuiet_nil ?_
  rintro _ ⟨nq, rfl⟩
  have HB := hid (below_then HW.out HW.out.size (lat_below W nq))
  go_wp2
  go_ret
  exact ⟨ret_bool HL.out.symm, HB.out⟩

/-- What Lane answers: its error, its bool. -/
def LnE (f : Fn) (a b : Pt) (r : Int) : Int := if chk f ≠ 0 then chk f else if mayL [a.x, a.y, b.x, b.y] = false then 5 else if r < 0 then 1 else 0
def LnV (f : Fn) (a b : Pt) (r : Int) : Bool := decide (LnE f a b r = 0) && lnB f.poly a b r

set_option maxRecDepth 100000 in
set_option maxHeartbeats 4000000 in
theorem lane_any (P : FP) (f : Fn) (a b : Pt) (r : Int) (w : World) (hr : FRd w P f) :
    Calls Try.prog 23 #[.agg #[.slice P.A f.poly.length P.c, .int .i64 f.fl, .int .i64 f.ce, .slice P.B f.rl.length P.d], .agg #[.int .i64 a.x, .int .i64 a.y], .agg #[.int .i64 b.x, .int .i64 b.y], .int .i64 r] w fun e w' =>
      e = .returned (.tuple #[.bool (LnV f a b r), .int .i64 (LnE f a b r)]) ∧ Below w.heap.size w w' := by
  obtain ⟨W, hW⟩ : ∃ W, W = ((w.alloc (.cells #[.slice P.A f.poly.length P.c, .int .i64 f.fl, .int .i64 f.ce, .slice P.B f.rl.length P.d] 24)).alloc (.cells #[.int .i64 a.x, .int .i64 a.y] 39)).alloc (.cells #[.int .i64 b.x, .int .i64 b.y] 39) := ⟨_, rfl⟩
  have HW := hid (show Below w.heap.size w W by rw [hW]; go_grown)
  have v0 := hid (show W.cell? ⟨w.heap.size, 0, none⟩ = some (.slice P.A f.poly.length P.c) by rw [hW]; simp [go_sem])
  have v1 := hid (show W.cell? ⟨w.heap.size, 1, none⟩ = some (.int .i64 f.fl) by rw [hW]; simp [go_sem])
  have v2 := hid (show W.cell? ⟨w.heap.size, 2, none⟩ = some (.int .i64 f.ce) by rw [hW]; simp [go_sem])
  have v3 := hid (show W.cell? ⟨w.heap.size, 3, none⟩ = some (.slice P.B f.rl.length P.d) by rw [hW]; simp [go_sem])
  have v4 := hid (show W.cell? ⟨w.heap.size + 1, 0, none⟩ = some (.int .i64 a.x) by rw [hW]; simp [go_sem])
  have v5 := hid (show W.cell? ⟨w.heap.size + 1, 1, none⟩ = some (.int .i64 a.y) by rw [hW]; simp [go_sem])
  have v6 := hid (show W.cell? ⟨w.heap.size + 1 + 1, 0, none⟩ = some (.int .i64 b.x) by rw [hW]; simp [go_sem])
  have v7 := hid (show W.cell? ⟨w.heap.size + 1 + 1, 1, none⟩ = some (.int .i64 b.y) by rw [hW]; simp [go_sem])
  have HR := hid hr
  have HE := hid (show LnE f a b r = if chk f ≠ 0 then chk f else if mayL [a.x, a.y, b.x, b.y] = false then 5 else if r < 0 then 1 else 0 from rfl)
  have HV := hid (show LnV f a b r = (decide (LnE f a b r = 0) && lnB f.poly a b r) from rfl)
  clear hr
  go_enter Try.func23, Try.ntmps23
  go_wp2_with fail
  rw [← hW]
  clear hW
  refine (check_any P f W (HR.out.below HW.out)).mono ?_
  rintro e w1 ⟨rfl, hb1⟩
  have u0 := later_cell hb1 v0.out
  have u1 := later_cell hb1 v1.out
  have u2 := later_cell hb1 v2.out
  have u3 := later_cell hb1 v3.out
  have u4 := later_cell hb1 v4.out
  have u5 := later_cell hb1 v5.out
  have u6 := later_cell hb1 v6.out
  have u7 := later_cell hb1 v7.out
  have HB1 := hid (below_then HW.out HW.out.size hb1)
  clear v0 v1 v2 v3 v4 v5 v6 v7 hb1
  have hsz := hid HB1.out.size
  by_cases hc : chk f = 0
  · have hcb : (chk f != 0) = false := by simp [hc]
    have HC := hid hc
    clear hc
    have hlt : w.heap.size + 1 + 1 < w1.heap.size := World.block_lt_of_cell? w1 _ u7
    have hlt0 : w.heap.size < w1.heap.size := by omega
    have hlt1 : w.heap.size + 1 < w1.heap.size := by omega
    cases hm : mayL [a.x, a.y, b.x, b.y] with
    | false =>
      have HM := hid hm
      clear hm
      go_wp2_with fail
      refine (may4 _ _ _ _ _ _ (by simp)).mono ?_
      rw [HM.out]
      rintro e w2 ⟨rfl, rfl⟩
      have he := HE.out
      rw [if_neg (by rw [HC.out]; simp), if_pos HM.out] at he
      have hv := HV.out
      rw [he] at hv
      replace he := hid he
      replace hv := hid hv
      go_wp2
      go_ret2
      exact ⟨by rw [hv.out, he.out]; rfl, HB1.out.alloc HB1.out.size _⟩
    | true =>
      have HM := hid hm
      clear hm
      by_cases hr0 : r < 0
      · go_wp2_with fail
        refine (may4 _ _ _ _ _ _ (by simp)).mono ?_
        rw [HM.out]
        rintro e w2 ⟨rfl, rfl⟩
        have he := HE.out
        rw [if_neg (by rw [HC.out]; simp), if_neg (by rw [HM.out]; simp), if_pos hr0] at he
        have hv := HV.out
        rw [he] at hv
        replace he := hid he
        replace hv := hid hv
        go_wp2
        go_ret2
        exact ⟨by rw [hv.out, he.out]; rfl, HB1.out.alloc HB1.out.size _⟩
      · have hr1 : 0 ≤ r := by omega
        have he := HE.out
        rw [if_neg (by rw [HC.out]; simp), if_neg (by rw [HM.out]; simp), if_neg hr0] at he
        have hv := HV.out
        rw [he] at hv
        replace he := hid he
        replace hv := hid hv
        clear hr0
        go_wp2_with fail
        refine (may4 _ _ _ _ _ _ (by simp)).mono ?_
        rw [HM.out]
        rintro e w2 ⟨rfl, rfl⟩
        go_wp2_with fail
        refine (lane_in P f a b r _ (HR.out.below (HB1.out.alloc HB1.out.size _)) (chk_smp HC.out)).mono ?_
        rintro e w3 ⟨rfl, hb3⟩
        have HB3 := hid (below_then (HB1.out.alloc HB1.out.size (.cells #[.int .i64 a.x, .int .i64 a.y, .int .i64 b.x, .int .i64 b.y] 3)) (by simp; have := HB1.out.size; omega) hb3)
        clear hb3
        go_wp2
        go_ret2
        exact ⟨by rw [hv.out, he.out]; rfl, HB3.out⟩
  · have hcb : (chk f != 0) = true := by simp [hc]
    have he := HE.out
    rw [if_pos hc] at he
    have hv := HV.out
    rw [he] at hv
    have HC := hid hc
    replace he := hid he
    replace hv := hid hv
    clear hc
    go_wp2
    go_ret2
    exact ⟨by rw [hv.out, he.out, decide_eq_false HC.out]; rfl, HB1.out⟩
end Go.Proofs.Ytigcbldbolablaa
