/- FenceMeansSaid is proved: where a box is held, each of its points is inside the polygon, between floor and ceiling; no condition. -/
import Derived.Test.YtigcbldbolablaaR0
import Derived.Test.YtigcbldbolablaaJ2
import Derived.Test.YtigcbldbolablaaM9
namespace Go.Proofs.Ytigcbldbolablaa
open Go.ChangeShapes Go.WideShapes Go.ChangeAt Go.RowKit

theorem ups_no {b : Bx} (h : ups b = false) : b.x.lo ≤ b.x.hi ∧ b.y.lo ≤ b.y.hi ∧ b.z.lo ≤ b.z.hi := by
  simp [ups, upP] at h
  omega
theorem HdE_ok {f : Fn} {b : Bx} (h : HdE f b = 0) : chk f = 0 ∧ ups b = false := by
  unfold HdE at h
  split at h
  · rename_i h1; exact absurd h h1
  · rename_i h1
    split at h
    · omega
    · rename_i h2
      exact ⟨Decidable.not_not.1 h1, by simpa using h2⟩
theorem HdV_ok {f : Fn} {b : Bx} (h : HdV f b = true) : HdE f b = 0 ∧ f.fl ≤ b.z.lo ∧ b.z.hi ≤ f.ce ∧ wthn f.poly b.x b.y = true := by
  unfold HdV at h
  simp at h
  exact ⟨h.1, h.2.1, h.2.2.1, h.2.2.2⟩
theorem btw_iff {n : Int} {s : Sp} : btw n s = true ↔ s.lo ≤ n ∧ n ≤ s.hi := by simp [btw]
theorem means_plain (f : Fn) (b : Bx) (p : Pl) (hV : HdV f b = true) (hx : btw p.x b.x = true) (hy : btw p.y b.y = true) (hz : btw p.z b.z = true) :
    sdE f.poly ⟨p.x, p.y⟩ = 0 ∧ sdV f.poly ⟨p.x, p.y⟩ = 1 ∧ f.fl ≤ p.z ∧ p.z ≤ f.ce := by
  obtain ⟨hE, h1, h2, h3⟩ := HdV_ok hV
  obtain ⟨hc, hu⟩ := HdE_ok hE
  obtain ⟨u1, u2, u3⟩ := ups_no hu
  rw [btw_iff] at hx hy hz
  obtain ⟨_, _, _, hin⟩ := within_say (chk_smp hc) u1 u2 h3
  obtain ⟨e1, e2⟩ := hin ⟨p.x, p.y⟩ ⟨hx.1, hx.2, hy.1, hy.2⟩
  exact ⟨e1, e2, by omega, by omega⟩

section
variable {H : Type} {enc : TypeId × Value → H} {W : World} {base : Nat} {sp : Nat → Bool} {held : Bool}
theorem open_box {m : Nat} {l : List Value} {x : DataW H × List MemPlace} (h : DataW.trod enc Try.prog W base sp held m 34 l = some x) : ∃ b : Bx, l = [.int .i64 b.x.lo, .int .i64 b.x.hi, .int .i64 b.y.lo, .int .i64 b.y.hi, .int .i64 b.z.lo, .int .i64 b.z.hi] := by
  obtain ⟨y0, y1, y2, n, hx, hl, h0, h1, h2⟩ := Go.Deep.trod_struct3 Try.underlying34 h
  rw [k34] at hl
  obtain ⟨a, b, c, d, e, f, rfl⟩ := six_of hl
  simp only [k32] at h0 h1 h2
  obtain ⟨s0, rfl, rfl⟩ := open_span h0
  obtain ⟨s1, rfl, rfl⟩ := open_span h1
  obtain ⟨s2, rfl, rfl⟩ := open_span h2
  exact ⟨⟨s0, s1, s2⟩, rfl⟩
end

set_option maxRecDepth 100000 in
theorem means_lifted (os : Os) (started : os.Started) (H : Type) (enc : TypeId × Value → H) :
    ReturnsInHanded {} Try.checked os 9 .any (Rows.fenceMeansSpec.pre6 enc Try.prog Try.f9 Rows.fenceMeansRow.domain false) (Rows.fenceMeansSpec.post enc Try.prog Try.f9 false true false false) := by
  refine returnsInHanded_of_change_sized (C := Try.checked) own started (by kernel_rfl) Try.func9
    (ChangeSpec.witness6 (enc := enc) (C := Try.checked) false ⟨#[], #[.agg #[.slice none 0 0, .int .i64 0, .int .i64 0, .slice none 0 0], .agg #[.int .i64 0, .int .i64 0, .int .i64 0, .int .i64 0, .int .i64 0, .int .i64 0], .agg #[.int .i64 0, .int .i64 0, .int .i64 0]], []⟩ 8 (by kernel_rfl) (by kernel_rfl) (by kernel_rfl) (by kernel_rfl)) ?_
  intro W base args ds gs before hval0 hW _ hsz0 _
  have hval : ∀ (j : Nat) t v, Try.f9.params[j]? = some t → args[j]? = some v → Value.okWide Try.prog W .any base t v := hval0
  have hsz : (DataW.weightsEach Try.prog (Try.f9.params.toList ++ Rows.fenceMeansSpec.plain.varTypes Try.prog) (ds ++ gs)).all (· ≤ reachBytes) = true := hsz0
  have hW' := hW
  obtain ⟨p, q, hA0, hV, rfl, hfz, hnd⟩ := hW
  have hA : DataW.TrodAll enc Try.prog W 0 (fun _ => true) true Try.f9.params.toList args.toList ds p := hA0
  rw [Try.params9] at hA hval hsz
  obtain ⟨v0, vs0, d0, ds0, p0, q0, hargs, rfl, rfl, h0, r0⟩ := trodAll_cons hA
  obtain ⟨v1, vs1, d1, ds1, p1, q1, rfl, rfl, rfl, h1, r1⟩ := trodAll_cons r0
  obtain ⟨v2, vs2, d2, ds2, p2, q2, rfl, rfl, rfl, h2, r2⟩ := trodAll_cons r1
  obtain ⟨rfl, rfl, rfl⟩ := trodAll_nil r2
  obtain rfl : args = #[v0, v1, v2] := by cases args; simp_all
  obtain ⟨rfl, rfl⟩ := trodVars_none hV
  have hw : ∀ n ∈ DataW.weights Try.prog 24 d0, n ≤ reachBytes := fun n hn => by
    have := List.all_eq_true.1 hsz n (DataW.weights_mem_each (j := 0) (t := 24) (d := d0) rfl rfl n hn)
    simpa using this
  obtain ⟨P, f, rfl, hin⟩ := open_fence (hval 0 24 v0 rfl rfl) h0 hw
  obtain ⟨cs, rfl, _, _⟩ : ∃ cs, v1 = .agg cs ∧ cs.size = Try.prog.cellsOf 34 ∧ Row.okWide Try.prog W .any base 34 cs := by
    have := hval 1 34 v1 rfl rfl
    simpa [Value.okWide, Try.underlying34] using this
  obtain ⟨l⟩ := cs
  obtain ⟨fuel, hf⟩ := h1
  obtain ⟨b, rfl⟩ := open_box hf
  obtain ⟨c0, c1, c2, y0, y1, y2, n2, rfl, _, _, g0, g1, g2⟩ := Go.Joins.open_agg3 Try.underlying53 (by kernel_rfl) (by kernel_rfl) (hval 2 53 v2 rfl rfl) h2
  obtain ⟨z0, rfl, _⟩ := open_i g0
  obtain ⟨z1, rfl, _⟩ := open_i g1
  obtain ⟨z2, rfl, _⟩ := open_i g2
  refine (means_walk P f b ⟨z0, z1, z2⟩ (HdV f b) (HdE f b) W hin (fun Q W' h => holds_any Q f b W' h) (fun hE => ?_) (fun _ hv hx hy hz => means_plain f b ⟨z0, z1, z2⟩ hv hx hy hz)).mono fun e W' ⟨he, hb⟩ => ?_
  · unfold HdV
    rw [decide_eq_false hE]
    rfl
  · subst he
    exact ⟨_, rfl, law_post laidOut (by kernel_rfl) hb hW' rfl (trodAll_mk1 (shut_bool Try.underlying4 _)) rfl rfl rfl⟩

theorem FenceMeans_proved : Rows.FenceMeansSaid :=
  OpenClaim.holds_of_wide 9 Try.f9 rfl rfl rfl rfl rfl rfl rfl ⟨rfl, rfl, rfl, rfl, rfl⟩ rfl rfl rfl rfl rfl (by kernel_rfl) Try.func9 (by kernel_rfl)
    (of_decide_eq_true (by kernel_rfl)) (by unfold Func.isWrapper; first | (rw [if_pos (by decide +kernel)]; kernel_rfl) | (rw [if_neg (by decide +kernel)]; exact ⟨rfl, rfl⟩))
    (fun os started H enc _ => means_lifted os started H enc)
#print axioms FenceMeans_proved
end Go.Proofs.Ytigcbldbolablaa
