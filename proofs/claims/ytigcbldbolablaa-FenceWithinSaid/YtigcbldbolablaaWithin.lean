/- FenceWithinSaid is proved: no corner of the polygon lies in a held box, and what lies within a held box is held; no condition. -/
import Derived.Test.YtigcbldbolablaaMeans
import Derived.Test.YtigcbldbolablaaJ5
import Derived.Test.YtigcbldbolablaaM10
namespace Go.Proofs.Ytigcbldbolablaa
open Go.ChangeShapes Go.WideShapes Go.ChangeAt Go.RowKit Go.Deep

theorem HdV_not {f : Fn} {b : Bx} (h : HdE f b ≠ 0) : HdV f b = false := by
  unfold HdV
  rw [decide_eq_false h]
  rfl
theorem fin_corner {f : Fn} {b : Bx} (hV : HdV f b = true) (i : Nat) (hi : i < f.poly.length) : (btw (npt f.poly i).x b.x && btw (npt f.poly i).y b.y) = false := by
  obtain ⟨hE, _, _, h3⟩ := HdV_ok hV
  obtain ⟨hc, hu⟩ := HdE_ok hE
  obtain ⟨u1, u2, _⟩ := ups_no hu
  cases hh : (btw (npt f.poly i).x b.x && btw (npt f.poly i).y b.y) with
  | false => rfl
  | true =>
    rw [Bool.and_eq_true, btw_iff, btw_iff] at hh
    exact absurd ⟨hh.1.1, hh.1.2, hh.2.1, hh.2.2⟩ (corner_out (chk_smp hc) u1 u2 h3 hi)
theorem fin_sub {f : Fn} {b c : Bx} (hV : HdV f b = true) (hG : HdE f c = 0) (h0 : btw c.x.lo b.x = true) (h1 : btw c.x.hi b.x = true) (h2 : btw c.y.lo b.y = true) (h3 : btw c.y.hi b.y = true) (h4 : btw c.z.lo b.z = true) (h5 : btw c.z.hi b.z = true) : HdV f c = true := by
  obtain ⟨hE, g1, g2, g3⟩ := HdV_ok hV
  obtain ⟨hc, hu⟩ := HdE_ok hG
  obtain ⟨u1, u2, u3⟩ := ups_no hu
  rw [btw_iff] at h0 h1 h2 h3 h4 h5
  have := wthn_sub (x' := c.x) (y' := c.y) (chk_smp hc) g3 ⟨by omega, by omega, u1⟩ ⟨by omega, by omega, u2⟩
  unfold HdV
  rw [hG, this, decide_eq_true (show c.z.lo ≥ f.fl by omega), decide_eq_true (show c.z.hi ≤ f.ce by omega)]
  rfl

set_option maxRecDepth 100000 in
theorem fin_lifted (os : Os) (started : os.Started) (H : Type) (enc : TypeId × Value → H) :
    ReturnsInHanded {} Try.checked os 10 .any (Rows.fenceWithinSpec.pre6 enc Try.prog Try.f10 Rows.fenceWithinRow.domain false) (Rows.fenceWithinSpec.post enc Try.prog Try.f10 false true false false) := by
  refine returnsInHanded_of_change_sized (C := Try.checked) own started (by kernel_rfl) Try.func10
    (ChangeSpec.witness6 (enc := enc) (C := Try.checked) false ⟨#[], #[.agg #[.slice none 0 0, .int .i64 0, .int .i64 0, .slice none 0 0], .agg #[.int .i64 0, .int .i64 0, .int .i64 0, .int .i64 0, .int .i64 0, .int .i64 0], .agg #[.int .i64 0, .int .i64 0, .int .i64 0, .int .i64 0, .int .i64 0, .int .i64 0]], []⟩ 8 (by kernel_rfl) (by kernel_rfl) (by kernel_rfl) (by kernel_rfl)) ?_
  intro W base args ds gs before hval0 hW _ hsz0 _
  have hval : ∀ (j : Nat) t v, Try.f10.params[j]? = some t → args[j]? = some v → Value.okWide Try.prog W .any base t v := hval0
  have hsz : (DataW.weightsEach Try.prog (Try.f10.params.toList ++ Rows.fenceWithinSpec.plain.varTypes Try.prog) (ds ++ gs)).all (· ≤ reachBytes) = true := hsz0
  have hW' := hW
  obtain ⟨p, q, hA0, hV, rfl, hfz, hnd⟩ := hW
  have hA : DataW.TrodAll enc Try.prog W 0 (fun _ => true) true Try.f10.params.toList args.toList ds p := hA0
  rw [show Try.f10.params = #[24, 34, 34] from rfl] at hA hval hsz
  obtain ⟨v0, vs0, d0, ds0, p0, q0, hargs, rfl, rfl, h0, r0⟩ := trodAll_cons hA
  obtain ⟨v1, vs1, d1, ds1, p1, q1, rfl, rfl, rfl, h1, r1⟩ := trodAll_cons r0
  obtain ⟨v2, vs2, d2, ds2, p2, q2, rfl, rfl, rfl, h2, r2⟩ := trodAll_cons r1
  obtain ⟨rfl, rfl, rfl⟩ := trodAll_nil r2
  obtain rfl : args = #[v0, v1, v2] := by cases args; simp_all
  obtain ⟨rfl, rfl⟩ := trodVars_none hV
  have hw : ∀ n ∈ DataW.weights Try.prog 24 d0, n ≤ reachBytes := fun n hn => by
    have := List.all_eq_true.1 hsz n (DataW.weights_mem_each (j := 0) (t := 24) (d := d0) rfl rfl n hn)
    simpa using this
  obtain ⟨P, f, rfl, hin⟩ := open_fence (hval 0 24 v0 rfl rfl) h0 hw
  obtain ⟨cs, rfl, _, _⟩ : ∃ cs, v1 = .agg cs ∧ cs.size = Try.prog.cellsOf 34 ∧ Row.okWide Try.prog W .any base 34 cs := by
    have := hval 1 34 v1 rfl rfl
    simpa [Value.okWide, Try.underlying34] using this
  obtain ⟨l⟩ := cs
  obtain ⟨fuel, hf⟩ := h1
  obtain ⟨b, rfl⟩ := open_box hf
  obtain ⟨cs2, rfl, _, _⟩ : ∃ cs, v2 = .agg cs ∧ cs.size = Try.prog.cellsOf 34 ∧ Row.okWide Try.prog W .any base 34 cs := by
    have := hval 2 34 v2 rfl rfl
    simpa [Value.okWide, Try.underlying34] using this
  obtain ⟨l2⟩ := cs2
  obtain ⟨fuel2, hf2⟩ := h2
  obtain ⟨c, rfl⟩ := open_box hf2
  refine (fin_walk P f b c (HdV f b) (HdV f c) (HdE f b) (HdE f c) W hin (fun Q W' h => holds_any Q f b W' h) (fun Q W' h => holds_any Q f c W' h) HdV_not HdV_not (fun _ hv => fin_corner hv) (fun _ hG hv => fin_sub hv hG)).mono fun e W' ⟨he, hb⟩ => ?_
  subst he
  exact ⟨_, rfl, law_post laidOut (by kernel_rfl) hb hW' rfl (trodAll_mk1 (shut_bool Try.underlying4 _)) rfl rfl rfl⟩

theorem FenceWithin_proved : Rows.FenceWithinSaid :=
  OpenClaim.holds_of_wide 10 Try.f10 rfl rfl rfl rfl rfl rfl rfl ⟨rfl, rfl, rfl, rfl, rfl⟩ rfl rfl rfl rfl rfl (by kernel_rfl) Try.func10 (by kernel_rfl)
    (of_decide_eq_true (by kernel_rfl)) (by unfold Func.isWrapper; first | (rw [if_pos (by decide +kernel)]; kernel_rfl) | (rw [if_neg (by decide +kernel)]; exact ⟨rfl, rfl⟩))
    (fun os started H enc _ => fin_lifted os started H enc)
#print axioms FenceWithin_proved
end Go.Proofs.Ytigcbldbolablaa
