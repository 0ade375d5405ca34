/- Whether a segment and a rectangle touch. -/
import Derived.Test.YtigcbldbolablaaA12
namespace Go.Proofs.Ytigcbldbolablaa
open Go.RowKit

set_option maxRecDepth 100000 in
set_option maxHeartbeats 4000000 in
theorem touches_apart (a b : Pt) (x y : Sp) (w : World) (h : (badP a || badP b) = false) (h2 : (crn x y).any badP = false) (hx : x.lo ≤ x.hi) (hy : y.lo ≤ y.hi) (h5 : (ovr a.x b.x x.lo x.hi && ovr a.y b.y y.lo y.hi) = false) :
    Calls Try.prog 80 #[.agg #[.int .i64 a.x, .int .i64 a.y], .agg #[.int .i64 b.x, .int .i64 b.y], .agg #[.int .i64 x.lo, .int .i64 x.hi], .agg #[.int .i64 y.lo, .int .i64 y.hi]] w fun e w' => e = .returned (.tuple #[.bool false, .int .i64 0]) ∧ Below w.heap.size w w' := by
  have H := hid h
  have H2 := hid h2
  clear h h2
  go_enter Try.func80, Try.ntmps80
  go_wp2_with fail
  refine (fits2 a b _ _ (by simp) _ rfl).mono ?_
  rw [H.out]
  rintro e w1 ⟨rfl, hb1⟩
  obtain ⟨hc, hf⟩ := bcell hb1
  have hsz1 := hb1.size
  simp only [World.size_alloc] at hsz1
  have HB1 := hid (below_then (((((((Below.refl w.heap.size w).alloc (Nat.le_refl _) _).alloc (by simp) _).alloc (by simp; omega) _).alloc (by simp; omega) _).alloc (by simp; omega) _).alloc (by simp; omega) _) (by simp; omega) hb1)
  have p0 : w1.cell? ⟨w.heap.size, 0, none⟩ = some (.int .i64 a.x) := by rw [hc _ _ (by simp <;> omega)]; simp [go_sem]
  have p1 : w1.cell? ⟨w.heap.size, 1, none⟩ = some (.int .i64 a.y) := by rw [hc _ _ (by simp <;> omega)]; simp [go_sem]
  have p2 : w1.cell? ⟨w.heap.size + 1, 0, none⟩ = some (.int .i64 b.x) := by rw [hc _ _ (by simp <;> omega)]; simp [go_sem]
  have p3 : w1.cell? ⟨w.heap.size + 1, 1, none⟩ = some (.int .i64 b.y) := by rw [hc _ _ (by simp <;> omega)]; simp [go_sem]
  have p4 : w1.cell? ⟨w.heap.size + 1 + 1, 0, none⟩ = some (.int .i64 x.lo) := by rw [hc _ _ (by simp <;> omega)]; simp [go_sem]
  have p5 : w1.cell? ⟨w.heap.size + 1 + 1, 1, none⟩ = some (.int .i64 x.hi) := by rw [hc _ _ (by simp <;> omega)]; simp [go_sem]
  have p6 : w1.cell? ⟨w.heap.size + 1 + 1 + 1, 0, none⟩ = some (.int .i64 y.lo) := by rw [hc _ _ (by simp <;> omega)]; simp [go_sem]
  have p7 : w1.cell? ⟨w.heap.size + 1 + 1 + 1, 1, none⟩ = some (.int .i64 y.hi) := by rw [hc _ _ (by simp <;> omega)]; simp [go_sem]
  have q0 : w1.cell? ⟨w.heap.size + 1 + 1 + 1 + 1, 0, none⟩ = some (.int .i64 x.lo) := by rw [hc _ _ (by simp <;> omega)]; simp [go_sem]
  have q1 : w1.cell? ⟨w.heap.size + 1 + 1 + 1 + 1, 1, none⟩ = some (.int .i64 y.lo) := by rw [hc _ _ (by simp <;> omega)]; simp [go_sem]
  have q2 : w1.cell? ⟨w.heap.size + 1 + 1 + 1 + 1, 2, none⟩ = some (.int .i64 x.lo) := by rw [hc _ _ (by simp <;> omega)]; simp [go_sem]
  have q3 : w1.cell? ⟨w.heap.size + 1 + 1 + 1 + 1, 3, none⟩ = some (.int .i64 y.hi) := by rw [hc _ _ (by simp <;> omega)]; simp [go_sem]
  have q4 : w1.cell? ⟨w.heap.size + 1 + 1 + 1 + 1, 4, none⟩ = some (.int .i64 x.hi) := by rw [hc _ _ (by simp <;> omega)]; simp [go_sem]
  have q5 : w1.cell? ⟨w.heap.size + 1 + 1 + 1 + 1, 5, none⟩ = some (.int .i64 y.lo) := by rw [hc _ _ (by simp <;> omega)]; simp [go_sem]
  have q6 : w1.cell? ⟨w.heap.size + 1 + 1 + 1 + 1, 6, none⟩ = some (.int .i64 x.hi) := by rw [hc _ _ (by simp <;> omega)]; simp [go_sem]
  have q7 : w1.cell? ⟨w.heap.size + 1 + 1 + 1 + 1, 7, none⟩ = some (.int .i64 y.hi) := by rw [hc _ _ (by simp <;> omega)]; simp [go_sem]
  clear hc hf hb1
  go_wp2_with fail
  refine (fits_any _ _ (crn x y) _ (crn_pts q0 q1 q2 q3 q4 q5 q6 q7) (by simp [crn])).mono ?_
  rw [H2.out]
  rintro e w2 ⟨rfl, hb2⟩
  have hm2 : ∀ (ad : Addr) (v : Value), w1.cell? ad = some v → w2.cell? ad = some v := fun ad v h => (hb2.cell (World.block_lt_of_cell? w1 _ h)).trans h
  have r0 := hm2 _ _ p0
  have r1 := hm2 _ _ p1
  have r2 := hm2 _ _ p2
  have r3 := hm2 _ _ p3
  have r4 := hm2 _ _ p4
  have r5 := hm2 _ _ p5
  have r6 := hm2 _ _ p6
  have r7 := hm2 _ _ p7
  have s0 := hm2 _ _ q0
  have s1 := hm2 _ _ q1
  have s2 := hm2 _ _ q2
  have s3 := hm2 _ _ q3
  have s4 := hm2 _ _ q4
  have s5 := hm2 _ _ q5
  have s6 := hm2 _ _ q6
  have s7 := hm2 _ _ q7
  have HB2 := hid (HB1.out.trans (hb2.mono (by omega)))
  clear hm2 hb2 p0 p1 p2 p3 p4 p5 p6 p7 q0 q1 q2 q3 q4 q5 q6 q7
  cases ho1 : ovr a.x b.x x.lo x.hi with
  | false =>
    have H3 := hid ho1
    clear ho1 h5
    go_wp2_with fail
    refine (over_any _ _ _ _ _ H3.out w2).mono ?_
    rintro e w3 ⟨rfl, rfl⟩
    go_wp2
    go_ret2
    exact ⟨rfl, HB2.out⟩
  | true =>
    have ho2 : ovr a.y b.y y.lo y.hi = false := by rw [ho1] at h5; simpa using h5
    have H3 := hid ho1
    have H4 := hid ho2
    clear ho1 ho2 h5
    go_wp2_with fail
    refine (over_any _ _ _ _ _ H3.out w2).mono ?_
    rintro e w3 ⟨rfl, rfl⟩
    go_wp2_with fail
    refine (over_any _ _ _ _ _ H4.out w2).mono ?_
    rintro e w3 ⟨rfl, rfl⟩
    go_wp2
    go_ret2
    exact ⟨rfl, HB2.out⟩

@[local go_sem] theorem min_int2 (k k' : IntKind) (x y : Int) (ats : Array TypeId) (ty : TypeId) : Builtin.min_ ats ty #[.int k x, .int k' y] = pure (.int k (min x y)) := by
  simp only [Builtin.min_, List.foldlM_cons, List.foldlM_nil, Builtin.min2, bind_pure]
  congr 2
  split <;> omega
@[local go_sem] theorem max_int2 (k k' : IntKind) (x y : Int) (ats : Array TypeId) (ty : TypeId) : Builtin.max_ ats ty #[.int k x, .int k' y] = pure (.int k (max x y)) := by
  simp only [Builtin.max_, List.foldlM_cons, List.foldlM_nil, Builtin.max2, bind_pure, gt_iff_lt]
  congr 2
  split <;> omega

def lstF (a b : Pt) (l : List Pt) : Int := l.foldl (fun m p => min m (trnP a b p)) 1
def mstF (a b : Pt) (l : List Pt) : Int := l.foldl (fun m p => max m (trnP a b p)) (-1)

set_option maxRecDepth 100000 in
set_option maxHeartbeats 4000000 in
theorem touches_turns (a b : Pt) (x y : Sp) (w : World) (h : (badP a || badP b) = false) (h2 : (crn x y).any badP = false) (hx : x.lo ≤ x.hi) (hy : y.lo ≤ y.hi) (h5 : ovr a.x b.x x.lo x.hi = true) (h6 : ovr a.y b.y y.lo y.hi = true) :
    Calls Try.prog 80 #[.agg #[.int .i64 a.x, .int .i64 a.y], .agg #[.int .i64 b.x, .int .i64 b.y], .agg #[.int .i64 x.lo, .int .i64 x.hi], .agg #[.int .i64 y.lo, .int .i64 y.hi]] w fun e w' => e = .returned (.tuple #[.bool (decide (lstF a b (crn x y) ≤ 0) && decide (mstF a b (crn x y) ≥ 0)), .int .i64 0]) ∧ Below w.heap.size w w' := by
  have H := hid h
  have H2 := hid h2
  have H3 := hid h5
  have H4 := hid h6
  generalize hR : (decide (lstF a b (crn x y) ≤ 0) && decide (mstF a b (crn x y) ≥ 0)) = R
  have HR := hid hR
  clear h h2 h5 h6 hR
  go_enter Try.func80, Try.ntmps80
  go_wp2_with fail
  refine (fits2 a b _ _ (by simp) _ rfl).mono ?_
  rw [H.out]
  rintro e w1 ⟨rfl, hb1⟩
  obtain ⟨hc, hf⟩ := bcell hb1
  have hsz1 := hb1.size
  simp only [World.size_alloc] at hsz1
  have HB1 := hid (below_then (((((((Below.refl w.heap.size w).alloc (Nat.le_refl _) _).alloc (by simp) _).alloc (by simp; omega) _).alloc (by simp; omega) _).alloc (by simp; omega) _).alloc (by simp; omega) _) (by simp; omega) hb1)
  have p0 : w1.cell? ⟨w.heap.size, 0, none⟩ = some (.int .i64 a.x) := by rw [hc _ _ (by simp <;> omega)]; simp [go_sem]
  have p1 : w1.cell? ⟨w.heap.size, 1, none⟩ = some (.int .i64 a.y) := by rw [hc _ _ (by simp <;> omega)]; simp [go_sem]
  have p2 : w1.cell? ⟨w.heap.size + 1, 0, none⟩ = some (.int .i64 b.x) := by rw [hc _ _ (by simp <;> omega)]; simp [go_sem]
  have p3 : w1.cell? ⟨w.heap.size + 1, 1, none⟩ = some (.int .i64 b.y) := by rw [hc _ _ (by simp <;> omega)]; simp [go_sem]
  have p4 : w1.cell? ⟨w.heap.size + 1 + 1, 0, none⟩ = some (.int .i64 x.lo) := by rw [hc _ _ (by simp <;> omega)]; simp [go_sem]
  have p5 : w1.cell? ⟨w.heap.size + 1 + 1, 1, none⟩ = some (.int .i64 x.hi) := by rw [hc _ _ (by simp <;> omega)]; simp [go_sem]
  have p6 : w1.cell? ⟨w.heap.size + 1 + 1 + 1, 0, none⟩ = some (.int .i64 y.lo) := by rw [hc _ _ (by simp <;> omega)]; simp [go_sem]
  have p7 : w1.cell? ⟨w.heap.size + 1 + 1 + 1, 1, none⟩ = some (.int .i64 y.hi) := by rw [hc _ _ (by simp <;> omega)]; simp [go_sem]
  have q0 : w1.cell? ⟨w.heap.size + 1 + 1 + 1 + 1, 0, none⟩ = some (.int .i64 x.lo) := by rw [hc _ _ (by simp <;> omega)]; simp [go_sem]
  have q1 : w1.cell? ⟨w.heap.size + 1 + 1 + 1 + 1, 1, none⟩ = some (.int .i64 y.lo) := by rw [hc _ _ (by simp <;> omega)]; simp [go_sem]
  have q2 : w1.cell? ⟨w.heap.size + 1 + 1 + 1 + 1, 2, none⟩ = some (.int .i64 x.lo) := by rw [hc _ _ (by simp <;> omega)]; simp [go_sem]
  have q3 : w1.cell? ⟨w.heap.size + 1 + 1 + 1 + 1, 3, none⟩ = some (.int .i64 y.hi) := by rw [hc _ _ (by simp <;> omega)]; simp [go_sem]
  have q4 : w1.cell? ⟨w.heap.size + 1 + 1 + 1 + 1, 4, none⟩ = some (.int .i64 x.hi) := by rw [hc _ _ (by simp <;> omega)]; simp [go_sem]
  have q5 : w1.cell? ⟨w.heap.size + 1 + 1 + 1 + 1, 5, none⟩ = some (.int .i64 y.lo) := by rw [hc _ _ (by simp <;> omega)]; simp [go_sem]
  have q6 : w1.cell? ⟨w.heap.size + 1 + 1 + 1 + 1, 6, none⟩ = some (.int .i64 x.hi) := by rw [hc _ _ (by simp <;> omega)]; simp [go_sem]
  have q7 : w1.cell? ⟨w.heap.size + 1 + 1 + 1 + 1, 7, none⟩ = some (.int .i64 y.hi) := by rw [hc _ _ (by simp <;> omega)]; simp [go_sem]
  clear hc hf hb1
  go_wp2_with fail
  refine (fits_any _ _ (crn x y) _ (crn_pts q0 q1 q2 q3 q4 q5 q6 q7) (by simp [crn])).mono ?_
  rw [H2.out]
  rintro e w2 ⟨rfl, hb2⟩
  have hm2 : ∀ (ad : Addr) (v : Value), w1.cell? ad = some v → w2.cell? ad = some v := fun ad v h => (hb2.cell (World.block_lt_of_cell? w1 _ h)).trans h
  have r0 := hm2 _ _ p0
  have r1 := hm2 _ _ p1
  have r2 := hm2 _ _ p2
  have r3 := hm2 _ _ p3
  have r4 := hm2 _ _ p4
  have r5 := hm2 _ _ p5
  have r6 := hm2 _ _ p6
  have r7 := hm2 _ _ p7
  have s0 := hm2 _ _ q0
  have s1 := hm2 _ _ q1
  have s2 := hm2 _ _ q2
  have s3 := hm2 _ _ q3
  have s4 := hm2 _ _ q4
  have s5 := hm2 _ _ q5
  have s6 := hm2 _ _ q6
  have s7 := hm2 _ _ q7
  have HB2 := hid (HB1.out.trans (hb2.mono (by omega)))
  clear hm2 hb2 p0 p1 p2 p3 p4 p5 p6 p7 q0 q1 q2 q3 q4 q5 q6 q7
  go_wp2_with fail
  refine (over_any _ _ _ _ _ H3.out w2).mono ?_
  rintro e w3 ⟨rfl, rfl⟩
  go_wp2_with fail
  refine (over_any _ _ _ _ _ H4.out w2).mono ?_
  rintro e w3 ⟨rfl, rfl⟩
  go_wp2
  have i0 : ∀ W : World, (Instr.index 118 (.agg #[.int .i64 x.lo, .int .i64 y.lo, .int .i64 x.lo, .int .i64 y.hi, .int .i64 x.hi, .int .i64 y.lo, .int .i64 x.hi, .int .i64 y.hi]) (.int .i64 0)).run Try.prog W = .ok (.agg #[.int .i64 x.lo, .int .i64 y.lo]) W := fun _ => by kernel_rfl
  have i1 : ∀ W : World, (Instr.index 118 (.agg #[.int .i64 x.lo, .int .i64 y.lo, .int .i64 x.lo, .int .i64 y.hi, .int .i64 x.hi, .int .i64 y.lo, .int .i64 x.hi, .int .i64 y.hi]) (.int .i64 1)).run Try.prog W = .ok (.agg #[.int .i64 x.lo, .int .i64 y.hi]) W := fun _ => by kernel_rfl
  have i2 : ∀ W : World, (Instr.index 118 (.agg #[.int .i64 x.lo, .int .i64 y.lo, .int .i64 x.lo, .int .i64 y.hi, .int .i64 x.hi, .int .i64 y.lo, .int .i64 x.hi, .int .i64 y.hi]) (.int .i64 2)).run Try.prog W = .ok (.agg #[.int .i64 x.hi, .int .i64 y.lo]) W := fun _ => by kernel_rfl
  have i3 : ∀ W : World, (Instr.index 118 (.agg #[.int .i64 x.lo, .int .i64 y.lo, .int .i64 x.lo, .int .i64 y.hi, .int .i64 x.hi, .int .i64 y.lo, .int .i64 x.hi, .int .i64 y.hi]) (.int .i64 3)).run Try.prog W = .ok (.agg #[.int .i64 x.hi, .int .i64 y.hi]) W := fun _ => by kernel_rfl
  have hlt1 : w.heap.size + 1 < w2.heap.size := World.block_lt_of_cell? w2 _ r2
  clear r4 r5 r6 r7 s0 s1 s2 s3 s4 s5 s6 s7
  go_loopw [11, 12, 14, 81] (fun lo hi _ i wr => ∃ k : Nat, k ≤ 4 ∧ i = .int .i64 k ∧ lo = .int .i64 (lstF a b ((crn x y).take k)) ∧ hi = .int .i64 (mstF a b ((crn x y).take k)) ∧ Hid (Below w2.heap.size w2 wr)) (fun _ _ _ i _ => 4 - (intOf i).toNat)
  case atStart => exact ⟨0, by omega, rfl, rfl, rfl, Below.refl _ _⟩
  case round =>
    obtain ⟨k, hk, rfl, rfl, rfl, hb⟩ := hrel
    have r0' := (hb.out.cell (World.block_lt_of_cell? w2 _ r0)).trans r0
    have r1' := (hb.out.cell (World.block_lt_of_cell? w2 _ r1)).trans r1
    have r2' := (hb.out.cell (World.block_lt_of_cell? w2 _ r2)).trans r2
    have r3' := (hb.out.cell (World.block_lt_of_cell? w2 _ r3)).trans r3
    have hsz := hb.out.size
    have hlt2 : w.heap.size + 1 < wr.heap.size := by omega
    by_cases hk4 : k = 4
    · subst hk4
      have HR' : Hid ((decide (lstF a b ((crn x y).take 4) ≤ 0) && decide (mstF a b ((crn x y).take 4) ≥ 0)) = R) := HR
      generalize lstF a b ((crn x y).take 4) = m1 at *
      generalize mstF a b ((crn x y).take 4) = m2 at *
      have HB3 := hid (HB2.out.trans (hb.out.mono (by omega)))
      clear r0' r1' r2' r3' HR
      by_cases hm1 : m1 ≤ 0
      · by_cases hm2 : 0 ≤ m2
        · have hR : R = true := by rw [← HR'.out, decide_eq_true hm1, decide_eq_true hm2]; rfl
          subst hR
          go_wp2
          go_ret2
          exact ⟨rfl, HB3.out⟩
        · have hR : R = false := by rw [← HR'.out, decide_eq_false hm2, Bool.and_false]
          subst hR
          go_wp2
          go_ret2
          exact ⟨rfl, HB3.out⟩
      · have hR : R = false := by rw [← HR'.out, decide_eq_false hm1]; rfl
        subst hR
        go_wp2
        go_ret2
        exact ⟨rfl, HB3.out⟩
    · have : k = 0 ∨ k = 1 ∨ k = 2 ∨ k = 3 := by omega
      rcases this with rfl | rfl | rfl | rfl
      · have u0 := lat_fact (alloc_fact r0' (.cells #[.int .i64 x.lo, .int .i64 y.lo] 39))
        have u1 := lat_fact (alloc_fact r1' (.cells #[.int .i64 x.lo, .int .i64 y.lo] 39))
        have u2 := lat_fact (alloc_fact r2' (.cells #[.int .i64 x.lo, .int .i64 y.lo] 39))
        have u3 := lat_fact (alloc_fact r3' (.cells #[.int .i64 x.lo, .int .i64 y.lo] 39))
        have u4 := lat_fact (show (wr.alloc (.cells #[.int .i64 x.lo, .int .i64 y.lo] 39)).cell? ⟨wr.heap.size, 0, none⟩ = some (.int .i64 x.lo) from cell_new wr _ 39 0)
        have u5 := lat_fact (show (wr.alloc (.cells #[.int .i64 x.lo, .int .i64 y.lo] 39)).cell? ⟨wr.heap.size, 1, none⟩ = some (.int .i64 y.lo) from cell_new wr _ 39 1)
        have HB3 := hid (hb.out.alloc hsz (.cells #[.int .i64 x.lo, .int .i64 y.lo] 39))
        go_wp2_with fail
        generalize wr.alloc (.cells #[.int .i64 x.lo, .int .i64 y.lo] 39) = W at *
        refine wp_region_later_lit (by kernel_rfl) (by kernel_rfl) ?_
        repeat (go_big_quiet_step (exact turn_later _ _ _ _ _ _))
        refine wpQuiet_nil ?_
        rintro _ ⟨nq, rfl⟩
        have HB4 := hid (HB3.out.trans ((lat_below W nq).mono HB3.out.size))
        clear u0 u1 u2 u3 u4 u5 r0' r1' r2' r3'
        go_wp2
        go_roundw
        case rel => exact ⟨1, by omega, by simp, rfl, rfl, HB4⟩
        case measure => simp [intOf]
      · have u0 := lat_fact (alloc_fact r0' (.cells #[.int .i64 x.lo, .int .i64 y.hi] 39))
        have u1 := lat_fact (alloc_fact r1' (.cells #[.int .i64 x.lo, .int .i64 y.hi] 39))
        have u2 := lat_fact (alloc_fact r2' (.cells #[.int .i64 x.lo, .int .i64 y.hi] 39))
        have u3 := lat_fact (alloc_fact r3' (.cells #[.int .i64 x.lo, .int .i64 y.hi] 39))
        have u4 := lat_fact (show (wr.alloc (.cells #[.int .i64 x.lo, .int .i64 y.hi] 39)).cell? ⟨wr.heap.size, 0, none⟩ = some (.int .i64 x.lo) from cell_new wr _ 39 0)
        have u5 := lat_fact (show (wr.alloc (.cells #[.int .i64 x.lo, .int .i64 y.hi] 39)).cell? ⟨wr.heap.size, 1, none⟩ = some (.int .i64 y.hi) from cell_new wr _ 39 1)
        have HB3 := hid (hb.out.alloc hsz (.cells #[.int .i64 x.lo, .int .i64 y.hi] 39))
        go_wp2_with fail
        generalize wr.alloc (.cells #[.int .i64 x.lo, .int .i64 y.hi] 39) = W at *
        refine wp_region_later_lit (by kernel_rfl) (by kernel_rfl) ?_
        repeat (go_big_quiet_step (exact turn_later _ _ _ _ _ _))
        refine wpQuiet_nil ?_
        rintro _ ⟨nq, rfl⟩
        have HB4 := hid (HB3.out.trans ((lat_below W nq).mono HB3.out.size))
        clear u0 u1 u2 u3 u4 u5 r0' r1' r2' r3'
        go_wp2
        go_roundw
        case rel => exact ⟨2, by omega, by simp, rfl, rfl, HB4⟩
        case measure => simp [intOf]
      · have u0 := lat_fact (alloc_fact r0' (.cells #[.int .i64 x.hi, .int .i64 y.lo] 39))
        have u1 := lat_fact (alloc_fact r1' (.cells #[.int .i64 x.hi, .int .i64 y.lo] 39))
        have u2 := lat_fact (alloc_fact r2' (.cells #[.int .i64 x.hi, .int .i64 y.lo] 39))
        have u3 := lat_fact (alloc_fact r3' (.cells #[.int .i64 x.hi, .int .i64 y.lo] 39))
        have u4 := lat_fact (show (wr.alloc (.cells #[.int .i64 x.hi, .int .i64 y.lo] 39)).cell? ⟨wr.heap.size, 0, none⟩ = some (.int .i64 x.hi) from cell_new wr _ 39 0)
        have u5 := lat_fact (show (wr.alloc (.cells #[.int .i64 x.hi, .int .i64 y.lo] 39)).cell? ⟨wr.heap.size, 1, none⟩ = some (.int .i64 y.lo) from cell_new wr _ 39 1)
        have HB3 := hid (hb.out.alloc hsz (.cells #[.int .i64 x.hi, .int .i64 y.lo] 39))
        go_wp2_with fail
        generalize wr.alloc (.cells #[.int .i64 x.hi, .int .i64 y.lo] 39) = W at *
        refine wp_region_later_lit (by kernel_rfl) (by kernel_rfl) ?_
        repeat (go_big_quiet_step (exact turn_later _ _ _ _ _ _))
        refine wpQuiet_nil ?_
        rintro _ ⟨nq, rfl⟩
        have HB4 := hid (HB3.out.trans ((lat_below W nq).mono HB3.out.size))
        clear u0 u1 u2 u3 u4 u5 r0' r1' r2' r3'
        go_wp2
        go_roundw
        case rel => exact ⟨3, by omega, by simp, rfl, rfl, HB4⟩
        case measure => simp [intOf]
      · have u0 := lat_fact (alloc_fact r0' (.cells #[.int .i64 x.hi, .int .i64 y.hi] 39))
        have u1 := lat_fact (alloc_fact r1' (.cells #[.int .i64 x.hi, .int .i64 y.hi] 39))
        have u2 := lat_fact (alloc_fact r2' (.cells #[.int .i64 x.hi, .int .i64 y.hi] 39))
        have u3 := lat_fact (alloc_fact r3' (.cells #[.int .i64 x.hi, .int .i64 y.hi] 39))
        have u4 := lat_fact (show (wr.alloc (.cells #[.int .i64 x.hi, .int .i64 y.hi] 39)).cell? ⟨wr.heap.size, 0, none⟩ = some (.int .i64 x.hi) from cell_new wr _ 39 0)
        have u5 := lat_fact (show (wr.alloc (.cells #[.int .i64 x.hi, .int .i64 y.hi] 39)).cell? ⟨wr.heap.size, 1, none⟩ = some (.int .i64 y.hi) from cell_new wr _ 39 1)
        have HB3 := hid (hb.out.alloc hsz (.cells #[.int .i64 x.hi, .int .i64 y.hi] 39))
        go_wp2_with fail
        generalize wr.alloc (.cells #[.int .i64 x.hi, .int .i64 y.hi] 39) = W at *
        refine wp_region_later_lit (by kernel_rfl) (by kernel_rfl) ?_
        repeat (go_big_quiet_step (exact turn_later _ _ _ _ _ _))
        refine wpQuiet_nil ?_
        rintro _ ⟨nq, rfl⟩
        have HB4 := hid (HB3.out.trans ((lat_below W nq).mono HB3.out.size))
        clear u0 u1 u2 u3 u4 u5 r0' r1' r2' r3'
        go_wp2
        go_roundw
        case rel => exact ⟨4, by omega, by simp, rfl, rfl, HB4⟩
        case measure => simp [intOf]
end Go.Proofs.Ytigcbldbolablaa
