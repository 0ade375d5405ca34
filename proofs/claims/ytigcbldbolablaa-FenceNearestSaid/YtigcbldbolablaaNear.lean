/- FenceNearestSaid is proved: Rally names the nearest rally point among those with a lane, the first of equals; no condition. -/
import Derived.Test.YtigcbldbolablaaR0
import Derived.Test.YtigcbldbolablaaM12
namespace Go.Proofs.Ytigcbldbolablaa
open Go.ChangeShapes Go.WideShapes Go.ChangeAt Go.RowKit

theorem near_V0 (f : Fn) (p : Pt) (r : Int) (h : RlE f p r ≠ 0) : RlV f p r = 0 := by
  unfold RlV
  rw [if_neg h]
theorem near_V (f : Fn) (p : Pt) (r : Int) (h : RlE f p r = 0) : RlV f p r = (rlyK f p r f.rl.length).1 := by
  unfold RlV
  rw [if_pos h]
theorem near_yes (f : Fn) (p : Pt) (r : Int) (h : RlE f p r = 0) (i : Nat) (hi : i < f.rl.length) (hl : lnB f.poly p (npt f.rl i) r = true) :
    0 ≤ RlV f p r ∧ farE p (npt f.rl i) = 0 ∧ farE p (npt f.rl (RlV f p r).toNat) = 0 ∧ ¬ farD p (npt f.rl i) < farD p (npt f.rl (RlV f p r).toNat) ∧ (farD p (npt f.rl i) = farD p (npt f.rl (RlV f p r).toNat) → ¬ (i : Int) < RlV f p r) := by
  rw [near_V f p r h]
  obtain ⟨i1, i2, i3, i4⟩ := rly_inv f p r f.rl.length
  have h0 : 0 ≤ (rlyK f p r f.rl.length).1 := by
    rcases (by omega : (rlyK f p r f.rl.length).1 < 0 ∨ 0 ≤ (rlyK f p r f.rl.length).1) with g | g
    · rw [i3 g i hi] at hl; cases hl
    · exact g
  obtain ⟨j1, j2, j3⟩ := i4 (rlyK f p r f.rl.length).1.toNat (by omega)
  have := j3 i hi hl
  refine ⟨h0, (lane_ok h hi).2.2, (lane_ok h (by omega)).2.2, fun g => this (.inl g), fun g g2 => this (.inr ⟨g, by omega⟩)⟩
theorem near_no (f : Fn) (p : Pt) (r : Int) (h : RlE f p r = 0) (i : Nat) (_ : i < f.rl.length) (hl : lnB f.poly p (npt f.rl i) r = false) : (i : Int) ≠ RlV f p r := by
  rw [near_V f p r h]
  obtain ⟨i1, i2, i3, i4⟩ := rly_inv f p r f.rl.length
  intro e
  rw [(i4 i e.symm).1] at hl
  cases hl

set_option maxRecDepth 100000 in
theorem near_lifted (os : Os) (started : os.Started) (H : Type) (enc : TypeId × Value → H) :
    ReturnsInHanded {} Try.checked os 12 .any (Rows.fenceNearestSpec.pre6 enc Try.prog Try.f12 Rows.fenceNearestRow.domain false) (Rows.fenceNearestSpec.post enc Try.prog Try.f12 false true false false) := by
  refine returnsInHanded_of_change_sized (C := Try.checked) own started (by kernel_rfl) Try.func12
    (ChangeSpec.witness6 (enc := enc) (C := Try.checked) false ⟨#[], #[.agg #[.slice none 0 0, .int .i64 0, .int .i64 0, .slice none 0 0], .agg #[.int .i64 0, .int .i64 0], .int .i64 0], []⟩ 8 (by kernel_rfl) (by kernel_rfl) (by kernel_rfl) (by kernel_rfl)) ?_
  intro W base args ds gs before hval0 hW _ hsz0 _
  have hval : ∀ (j : Nat) t v, Try.f12.params[j]? = some t → args[j]? = some v → Value.okWide Try.prog W .any base t v := hval0
  have hsz : (DataW.weightsEach Try.prog (Try.f12.params.toList ++ Rows.fenceNearestSpec.plain.varTypes Try.prog) (ds ++ gs)).all (· ≤ reachBytes) = true := hsz0
  have hW' := hW
  obtain ⟨p, q, hA0, hV, rfl, hfz, hnd⟩ := hW
  have hA : DataW.TrodAll enc Try.prog W 0 (fun _ => true) true Try.f12.params.toList args.toList ds p := hA0
  rw [show Try.f12.params = #[24, 39, 3] from rfl] at hA hval hsz
  obtain ⟨v0, vs0, d0, ds0, p0, q0, hargs, rfl, rfl, h0, r0⟩ := trodAll_cons hA
  obtain ⟨v1, vs1, d1, ds1, p1, q1, rfl, rfl, rfl, h1, r1⟩ := trodAll_cons r0
  obtain ⟨v2, vs2, d2, ds2, p2, q2, rfl, rfl, rfl, h2, r2⟩ := trodAll_cons r1
  obtain ⟨rfl, rfl, rfl⟩ := trodAll_nil r2
  obtain rfl : args = #[v0, v1, v2] := by cases args; simp_all
  obtain ⟨rfl, rfl⟩ := trodVars_none hV
  have hw : ∀ n ∈ DataW.weights Try.prog 24 d0, n ≤ reachBytes := fun n hn => by
    have := List.all_eq_true.1 hsz n (DataW.weights_mem_each (j := 0) (t := 24) (d := d0) rfl rfl n hn)
    simpa using this
  obtain ⟨P, f, rfl, hin⟩ := open_fence (hval 0 24 v0 rfl rfl) h0 hw
  obtain ⟨c0, c1, y0, y1, n2, rfl, _, _, g0, g1⟩ := Go.Joins.open_agg2 Try.underlying39 (by kernel_rfl) (by kernel_rfl) (hval 1 39 v1 rfl rfl) h1
  obtain ⟨z0, rfl, _⟩ := open_i g0
  obtain ⟨z1, rfl, _⟩ := open_i g1
  obtain ⟨r, rfl, _, _⟩ := open_int (k := .i64) Try.underlying3 (hval 2 3 v2 rfl rfl) h2
  refine (nearest_walk P f ⟨z0, z1⟩ r (RlV f ⟨z0, z1⟩ r) (RlE f ⟨z0, z1⟩ r) W hin (fun Q W' h => rally_any Q f ⟨z0, z1⟩ r W' h) (near_V0 f _ r) (fun hE => ?_) (fun hE i hi Q W' h => ?_) (fun hE => near_no f _ r hE) (fun hE => near_yes f _ r hE)).mono fun e W' ⟨he, hb⟩ => ?_
  · rw [near_V f _ r hE]
    exact ⟨(rly_inv f _ r _).1, (rly_inv f _ r _).2.1⟩
  · have := lane_any Q f ⟨z0, z1⟩ (npt f.rl i) r W' h
    rw [(lane_ok hE hi).1, (lane_ok hE hi).2.1] at this
    exact this
  · subst he
    exact ⟨_, rfl, law_post laidOut (by kernel_rfl) hb hW' rfl (trodAll_mk1 (shut_bool Try.underlying4 _)) rfl rfl rfl⟩

theorem FenceNearest_proved : Rows.FenceNearestSaid :=
  OpenClaim.holds_of_wide 12 Try.f12 rfl rfl rfl rfl rfl rfl rfl ⟨rfl, rfl, rfl, rfl, rfl⟩ rfl rfl rfl rfl rfl (by kernel_rfl) Try.func12 (by kernel_rfl)
    (of_decide_eq_true (by kernel_rfl)) (by unfold Func.isWrapper; first | (rw [if_pos (by decide +kernel)]; kernel_rfl) | (rw [if_neg (by decide +kernel)]; exact ⟨rfl, rfl⟩))
    (fun os started H enc _ => near_lifted os started H enc)
#print axioms FenceNearest_proved
end Go.Proofs.Ytigcbldbolablaa
