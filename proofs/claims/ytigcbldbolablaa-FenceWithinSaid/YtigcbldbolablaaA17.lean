/- Whether a box lies in a fence. -/
import Derived.Test.YtigcbldbolablaaA16
namespace Go.Proofs.Ytigcbldbolablaa
open Go.RowKit
set_option linter.unusedSimpArgs false

def upP (p : Pt) : Bool := decide (p.x > p.y)
theorem ups1 (p : Pt) (w : World) :
    Calls Try.prog 52 #[.agg #[.int .i64 p.x, .int .i64 p.y]] w fun e w' => e = .returned (.bool (upP p)) ∧ Below w.heap.size w w' := by
  obtain ⟨x, y⟩ := p
  go_enter Try.func52, Try.ntmps52
  go_wp2
  all_goals
    go_ret
    refine ⟨ret_bool ?_, (Below.refl _ _).alloc (Nat.le_refl _) _⟩
    (try rw [Bool.eq_iff_iff]); simp [upP]

def idxU (l : List Pt) : Int := match l.findIdx? upP with | some i => i | none => -1

def noUp (l : List Pt) (k : Nat) : Prop := ∀ j, j < k → upP (l.getD j z0) = false
theorem noUp_succ {l : List Pt} {k : Nat} (h : noUp l k) (hk : upP (pat l k) = false) : noUp l (k + 1) := by
  intro j hj
  rcases Nat.lt_succ_iff_lt_or_eq.1 hj with h1 | rfl
  · exact h j h1
  · simpa [pat] using hk
theorem idxU_at {l : List Pt} {k : Nat} (hk : k < l.length) (h : noUp l k) (hb : upP (pat l k) = true) : idxU l = k := by
  unfold idxU
  have : l.findIdx? upP = some k := by
    rw [List.findIdx?_eq_some_iff_getElem]
    refine ⟨hk, ?_, fun j hj => ?_⟩
    · simpa [pat, List.getD_eq_getElem?_getD, hk] using hb
    · have := h j hj
      have hj' : j < l.length := by omega
      simpa [List.getD_eq_getElem?_getD, hj'] using this
  rw [this]
theorem idxU_none {l : List Pt} {k : Nat} (hk : l.length ≤ k) (h : noUp l k) : idxU l = -1 := by
  unfold idxU
  have : l.findIdx? upP = none := by
    rw [List.findIdx?_eq_none_iff]
    intro x hx
    obtain ⟨j, hj, rfl⟩ := List.getElem_of_mem hx
    have := h j (by omega)
    simpa [List.getD_eq_getElem?_getD, hj] using this
  rw [this]

set_option maxHeartbeats 800000 in
theorem idxu_any (A : Option Addr) (c : Nat) (l : List Pt) (w : World) (hr : Pts w A l) (hm : l.length ≤ 4611686018427387904) :
    Calls Try.prog 78 #[.slice A l.length c, .func (.func 52) #[] #[]] w fun e w' => e = .returned (.int .i64 (idxU l)) ∧ Below w.heap.size w w' := by
  have HR := hid hr
  clear hr
  go_enter Try.func78, Try.ntmps78
  go_wp2
  go_loopw [5, 8] (fun _ i wr => ∃ k : Nat, k ≤ l.length ∧ i = .int .i64 k ∧ Hid (noUp l k) ∧ Hid (Below w.heap.size w wr)) (fun _ i _ => l.length - (intOf i).toNat)
  case atStart => exact ⟨0, Nat.zero_le _, rfl, fun j hj => by omega, Below.refl _ _⟩
  case round =>
    obtain ⟨k, hk, rfl, hno, hb⟩ := hrel
    by_cases hlt : k < l.length
    · obtain ⟨ad, rfl, _, hc1, hc2⟩ := (HR.out.below hb.out).at_ (k : Int) (by omega) (by omega)
      simp only [Int.toNat_natCast] at hc1 hc2
      go_wp2_with fail
      refine (ups1 _ _).mono ?_
      rintro e w1 ⟨rfl, hb1⟩
      have HB := hid (below_then hb.out hb.out.size hb1)
      clear hb hb1
      cases hbad : upP (pat l k) with
      | true =>
        have HX := hid hbad
        clear hbad
        go_wp2
        go_ret
        refine ⟨ret_int ?_, HB.out⟩
        exact (idxU_at hlt hno.out HX.out).symm
      | false =>
        have HX := hid hbad
        clear hbad
        go_wp2
        go_roundw
        case rel => exact ⟨k + 1, by omega, by go_num, noUp_succ hno.out HX.out, HB⟩
        case measure => simp [intOf]; omega
    · go_wp2
      go_ret
      exact ⟨ret_int (idxU_none (by omega) hno.out).symm, hb.out⟩

theorem contu_any (A : Option Addr) (c : Nat) (l : List Pt) (w : World) (hr : Pts w A l) (hm : l.length ≤ 4611686018427387904) :
    Calls Try.prog 51 #[.slice A l.length c, .func (.func 52) #[] #[]] w fun e w' => e = .returned (.bool (l.any upP)) ∧ Below w.heap.size w w' := by
  have HR := hid hr
  clear hr
  have hge : decide (0 ≤ idxU l) = l.any upP := by
    unfold idxU
    cases h : l.findIdx? upP with
    | none => rw [List.findIdx?_eq_none_iff] at h; rw [Bool.eq_iff_iff]; simp; intro x hx; simpa using h x hx
    | some i => rw [List.findIdx?_eq_some_iff_getElem] at h; obtain ⟨hi, hb, _⟩ := h; rw [Bool.eq_iff_iff]; simp; exact ⟨_, List.getElem_mem hi, hb⟩
  have HG := hid hge
  clear hge
  go_enter Try.func51, Try.ntmps51
  go_wp2_with fail
  refine (idxu_any _ _ _ _ HR.out hm).mono ?_
  rintro e w1 ⟨rfl, hb1⟩
  go_wp2
  go_ret
  exact ⟨ret_bool HG.out, hb1⟩


/-- A box. -/
structure Bx where
  x : Sp
  y : Sp
  z : Sp
def ups (b : Bx) : Bool := [(⟨b.x.lo, b.x.hi⟩ : Pt), ⟨b.y.lo, b.y.hi⟩, ⟨b.z.lo, b.z.hi⟩].any upP
theorem ups_any (b : Bx) (W : World) (g : Nat) (hg : g = W.heap.size) (W1 : World) (h1 : W1 = W.alloc (.cells #[.int .i64 b.x.lo, .int .i64 b.x.hi, .int .i64 b.y.lo, .int .i64 b.y.hi, .int .i64 b.z.lo, .int .i64 b.z.hi] 32)) :
    Calls Try.prog 51 #[.slice (some ⟨g, 0, none⟩) 3 3, .func (.func 52) #[] #[]] W1 fun e w' => e = .returned (.bool (ups b)) ∧ Below W1.heap.size W1 w' := by
  subst hg h1
  exact contu_any (some ⟨W.heap.size, 0, none⟩) 3 [⟨b.x.lo, b.x.hi⟩, ⟨b.y.lo, b.y.hi⟩, ⟨b.z.lo, b.z.hi⟩] _ (pts_new W _ 32 _ (by
    intro k hk
    have : k = 0 ∨ k = 1 ∨ k = 2 := by simp at hk; omega
    rcases this with rfl | rfl | rfl <;> exact ⟨rfl, rfl⟩)) (by simp)

/-- What Holds answers: its error, its bool. -/
def HdE (f : Fn) (b : Bx) : Int := if chk f ≠ 0 then chk f else if ups b = true then 1 else 0
def HdV (f : Fn) (b : Bx) : Bool := decide (HdE f b = 0) && (decide (b.z.lo ≥ f.fl) && (decide (b.z.hi ≤ f.ce) && wthn f.poly b.x b.y))

set_option maxRecDepth 100000 in
set_option maxHeartbeats 4000000 in
theorem holds_any (P : FP) (f : Fn) (b : Bx) (w : World) (hr : FRd w P f) :
    Calls Try.prog 21 #[.agg #[.slice P.A f.poly.length P.c, .int .i64 f.fl, .int .i64 f.ce, .slice P.B f.rl.length P.d], .agg #[.int .i64 b.x.lo, .int .i64 b.x.hi, .int .i64 b.y.lo, .int .i64 b.y.hi, .int .i64 b.z.lo, .int .i64 b.z.hi]] w fun e w' =>
      e = .returned (.tuple #[.bool (HdV f b), .int .i64 (HdE f b)]) ∧ Below w.heap.size w w' := by
  obtain ⟨W, hW⟩ : ∃ W, W = (w.alloc (.cells #[.slice P.A f.poly.length P.c, .int .i64 f.fl, .int .i64 f.ce, .slice P.B f.rl.length P.d] 24)).alloc (.cells #[.int .i64 b.x.lo, .int .i64 b.x.hi, .int .i64 b.y.lo, .int .i64 b.y.hi, .int .i64 b.z.lo, .int .i64 b.z.hi] 34) := ⟨_, rfl⟩
  have HW := hid (show Below w.heap.size w W by rw [hW]; go_grown)
  have v0 := hid (show W.cell? ⟨w.heap.size, 0, none⟩ = some (.slice P.A f.poly.length P.c) by rw [hW]; simp [go_sem])
  have v1 := hid (show W.cell? ⟨w.heap.size, 1, none⟩ = some (.int .i64 f.fl) by rw [hW]; simp [go_sem])
  have v2 := hid (show W.cell? ⟨w.heap.size, 2, none⟩ = some (.int .i64 f.ce) by rw [hW]; simp [go_sem])
  have v4 := hid (show W.cell? ⟨w.heap.size + 1, 0, none⟩ = some (.int .i64 b.x.lo) by rw [hW]; simp [go_sem])
  have v5 := hid (show W.cell? ⟨w.heap.size + 1, 1, none⟩ = some (.int .i64 b.x.hi) by rw [hW]; simp [go_sem])
  have v6 := hid (show W.cell? ⟨w.heap.size + 1, 2, none⟩ = some (.int .i64 b.y.lo) by rw [hW]; simp [go_sem])
  have v7 := hid (show W.cell? ⟨w.heap.size + 1, 3, none⟩ = some (.int .i64 b.y.hi) by rw [hW]; simp [go_sem])
  have v8 := hid (show W.cell? ⟨w.heap.size + 1, 4, none⟩ = some (.int .i64 b.z.lo) by rw [hW]; simp [go_sem])
  have v9 := hid (show W.cell? ⟨w.heap.size + 1, 5, none⟩ = some (.int .i64 b.z.hi) by rw [hW]; simp [go_sem])
  have HR := hid hr
  have HE := hid (show HdE f b = if chk f ≠ 0 then chk f else if ups b = true then 1 else 0 from rfl)
  have HV := hid (show HdV f b = (decide (HdE f b = 0) && (decide (b.z.lo ≥ f.fl) && (decide (b.z.hi ≤ f.ce) && wthn f.poly b.x b.y))) from rfl)
  clear hr
  go_enter Try.func21, Try.ntmps21
  go_wp2_with fail
  rw [← hW]
  clear hW
  refine (check_any P f W (HR.out.below HW.out)).mono ?_
  rintro e w1 ⟨rfl, hb1⟩
  have u0 := later_cell hb1 v0.out
  have u1 := later_cell hb1 v1.out
  have u2 := later_cell hb1 v2.out
  have u4 := later_cell hb1 v4.out
  have u5 := later_cell hb1 v5.out
  have u6 := later_cell hb1 v6.out
  have u7 := later_cell hb1 v7.out
  have u8 := later_cell hb1 v8.out
  have u9 := later_cell hb1 v9.out
  have HB1 := hid (below_then HW.out HW.out.size hb1)
  clear v0 v1 v2 v4 v5 v6 v7 v8 v9 hb1
  by_cases hc : chk f = 0
  · have hcb : (chk f != 0) = false := by simp [hc]
    have HC := hid hc
    clear hc
    have hlt : w.heap.size + 1 < w1.heap.size := World.block_lt_of_cell? w1 _ u7
    have hlt0 : w.heap.size < w1.heap.size := by omega
    cases hm : ups b with
    | true =>
      have HM := hid hm
      clear hm
      go_wp2_with fail
      refine (ups_any b _ _ (by simp) _ rfl).mono ?_
      rw [HM.out]
      rintro e w2 ⟨rfl, hb2⟩
      have HB2 := hid (below_then (HB1.out.alloc HB1.out.size _) (by simp; omega) hb2)
      have he := HE.out
      rw [if_neg (by rw [HC.out]; simp), if_pos HM.out] at he
      have hv := HV.out
      rw [he] at hv
      replace he := hid he
      replace hv := hid hv
      go_wp2
      go_ret2
      exact ⟨by rw [hv.out, he.out]; rfl, HB2.out⟩
    | false =>
      have HM := hid hm
      clear hm
      have he := HE.out
      rw [if_neg (by rw [HC.out]; simp), if_neg (by rw [HM.out]; simp)] at he
      have hv := HV.out
      rw [he] at hv
      replace he := hid he
      replace hv := hid hv
      go_wp2_with fail
      refine (ups_any b _ _ (by simp) _ rfl).mono ?_
      rw [HM.out]
      rintro e w2 ⟨rfl, hb2⟩
      have t0 := later_cell hb2 (alloc_fact u0 _)
      have t1 := later_cell hb2 (alloc_fact u1 _)
      have t2 := later_cell hb2 (alloc_fact u2 _)
      have t4 := later_cell hb2 (alloc_fact u4 _)
      have t5 := later_cell hb2 (alloc_fact u5 _)
      have t6 := later_cell hb2 (alloc_fact u6 _)
      have t7 := later_cell hb2 (alloc_fact u7 _)
      have t8 := later_cell hb2 (alloc_fact u8 _)
      have t9 := later_cell hb2 (alloc_fact u9 _)
      have HB2 := hid (below_then (HB1.out.alloc HB1.out.size _) (by simp; omega) hb2)
      clear hb2 u0 u1 u2 u4 u5 u6 u7 u8 u9 hlt hlt0
      have HP := hid (poly_ok (HR.out.below HB2.out).poly (chk_smp HC.out))
      by_cases h1 : f.fl ≤ b.z.lo
      · by_cases h2 : b.z.hi ≤ f.ce
        · go_wp2_with fail
          refine (within_any _ _ _ _ _ _ HP.out).mono ?_
          rintro e w3 ⟨rfl, hb3⟩
          have HB3 := hid (below_then HB2.out HB2.out.size hb3)
          have HD := hid (show (decide (b.z.lo ≥ f.fl) && (decide (b.z.hi ≤ f.ce) && wthn f.poly b.x b.y)) = wthn f.poly b.x b.y by rw [decide_eq_true h1, decide_eq_true h2]; rfl)
          go_wp2
          go_ret2
          exact ⟨by rw [hv.out, he.out, HD.out]; rfl, HB3.out⟩
        · have HD := hid (show (decide (b.z.lo ≥ f.fl) && (decide (b.z.hi ≤ f.ce) && wthn f.poly b.x b.y)) = false by rw [decide_eq_false h2, Bool.false_and, Bool.and_false])
          have h3 : f.ce < b.z.hi := by omega
          clear h2
          go_wp2
          go_ret2
          exact ⟨by rw [hv.out, he.out, HD.out]; rfl, HB2.out⟩
      · have HD := hid (show (decide (b.z.lo ≥ f.fl) && (decide (b.z.hi ≤ f.ce) && wthn f.poly b.x b.y)) = false by rw [decide_eq_false h1, Bool.false_and])
        have h3 : b.z.lo < f.fl := by omega
        clear h1
        go_wp2
        go_ret2
        exact ⟨by rw [hv.out, he.out, HD.out]; rfl, HB2.out⟩
  · have hcb : (chk f != 0) = true := by simp [hc]
    have he := HE.out
    rw [if_pos hc] at he
    have hv := HV.out
    rw [he] at hv
    have HC := hid hc
    replace he := hid he
    replace hv := hid hv
    clear hc
    go_wp2
    go_ret2
    exact ⟨by rw [hv.out, he.out, decide_eq_false HC.out]; rfl, HB1.out⟩
end Go.Proofs.Ytigcbldbolablaa
