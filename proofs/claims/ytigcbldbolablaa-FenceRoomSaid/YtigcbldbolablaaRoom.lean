/- FenceRoomSaid is proved: a lane reads the same both ways, half the room does too, and all of its room is inside; no condition. -/
import Derived.Test.YtigcbldbolablaaR0
import Derived.Test.YtigcbldbolablaaJ5
import Derived.Test.YtigcbldbolablaaM11
namespace Go.Proofs.Ytigcbldbolablaa
open Go.ChangeShapes Go.WideShapes Go.ChangeAt Go.RowKit Go.Deep

theorem k41 : Try.prog.cellsOf 41 = 5 := by kernel_rfl
theorem five_of {α : Type} {l : List α} (h : l.length = 5) : ∃ a b c d e, l = [a, b, c, d, e] := by
  match l, h with
  | [a, b, c, d, e], _ => exact ⟨a, b, c, d, e, rfl⟩
section
variable {H : Type} {enc : TypeId × Value → H} {W : World} {base : Nat} {sp : Nat → Bool} {held : Bool}
theorem open_point {m : Nat} {c0 c1 : Value} {x : DataW H × List MemPlace} (h : DataW.trod enc Try.prog W base sp held m 39 [c0, c1] = some x) : ∃ p : Pt, c0 = .int .i64 p.x ∧ c1 = .int .i64 p.y := by
  obtain ⟨y0, y1, n, hx, _, h0, h1⟩ := trod_struct2 Try.underlying39 h
  simp only [k3] at h0 h1
  obtain ⟨z0, e0, _⟩ := open_i h0
  obtain ⟨z1, e1, _⟩ := open_i h1
  exact ⟨⟨z0, z1⟩, e0, e1⟩
theorem open_way {m : Nat} {l : List Value} {x : DataW H × List MemPlace} (h : DataW.trod enc Try.prog W base sp held m 41 l = some x) : ∃ (a b : Pt) (r : Int), l = [.int .i64 a.x, .int .i64 a.y, .int .i64 b.x, .int .i64 b.y, .int .i64 r] := by
  obtain ⟨y0, y1, y2, n, hx, hl, h0, h1, h2⟩ := Go.Deep.trod_struct3 Try.underlying41 h
  rw [k41] at hl
  obtain ⟨a, b, c, d, e, rfl⟩ := five_of hl
  simp only [k39, k3] at h0 h1 h2
  obtain ⟨s0, rfl, rfl⟩ := open_point h0
  obtain ⟨s1, rfl, rfl⟩ := open_point h1
  obtain ⟨r, rfl, _⟩ := open_i h2
  exact ⟨s0, s1, r, rfl⟩
end
theorem LnV_not {f : Fn} {a b : Pt} {r : Int} (h : LnE f a b r ≠ 0) : LnV f a b r = false := by
  unfold LnV
  rw [decide_eq_false h]
  rfl

set_option maxRecDepth 100000 in
theorem room_lifted (os : Os) (started : os.Started) (H : Type) (enc : TypeId × Value → H) :
    ReturnsInHanded {} Try.checked os 11 .any (Rows.fenceRoomSpec.pre6 enc Try.prog Try.f11 Rows.fenceRoomRow.domain false) (Rows.fenceRoomSpec.post enc Try.prog Try.f11 false true false false) := by
  refine returnsInHanded_of_change_sized (C := Try.checked) own started (by kernel_rfl) Try.func11
    (ChangeSpec.witness6 (enc := enc) (C := Try.checked) false ⟨#[], #[.agg #[.slice none 0 0, .int .i64 0, .int .i64 0, .slice none 0 0], .agg #[.int .i64 0, .int .i64 0, .int .i64 0, .int .i64 0, .int .i64 0], .agg #[.int .i64 0, .int .i64 0]], []⟩ 8 (by kernel_rfl) (by kernel_rfl) (by kernel_rfl) (by kernel_rfl)) ?_
  intro W base args ds gs before hval0 hW _ hsz0 _
  have hval : ∀ (j : Nat) t v, Try.f11.params[j]? = some t → args[j]? = some v → Value.okWide Try.prog W .any base t v := hval0
  have hsz : (DataW.weightsEach Try.prog (Try.f11.params.toList ++ Rows.fenceRoomSpec.plain.varTypes Try.prog) (ds ++ gs)).all (· ≤ reachBytes) = true := hsz0
  have hW' := hW
  obtain ⟨p, q, hA0, hV, rfl, hfz, hnd⟩ := hW
  have hA : DataW.TrodAll enc Try.prog W 0 (fun _ => true) true Try.f11.params.toList args.toList ds p := hA0
  rw [show Try.f11.params = #[24, 41, 39] from rfl] at hA hval hsz
  obtain ⟨v0, vs0, d0, ds0, p0, q0, hargs, rfl, rfl, h0, r0⟩ := trodAll_cons hA
  obtain ⟨v1, vs1, d1, ds1, p1, q1, rfl, rfl, rfl, h1, r1⟩ := trodAll_cons r0
  obtain ⟨v2, vs2, d2, ds2, p2, q2, rfl, rfl, rfl, h2, r2⟩ := trodAll_cons r1
  obtain ⟨rfl, rfl, rfl⟩ := trodAll_nil r2
  obtain rfl : args = #[v0, v1, v2] := by cases args; simp_all
  obtain ⟨rfl, rfl⟩ := trodVars_none hV
  have hw : ∀ n ∈ DataW.weights Try.prog 24 d0, n ≤ reachBytes := fun n hn => by
    have := List.all_eq_true.1 hsz n (DataW.weights_mem_each (j := 0) (t := 24) (d := d0) rfl rfl n hn)
    simpa using this
  obtain ⟨P, f, rfl, hin⟩ := open_fence (hval 0 24 v0 rfl rfl) h0 hw
  obtain ⟨cs, rfl, _, _⟩ : ∃ cs, v1 = .agg cs ∧ cs.size = Try.prog.cellsOf 41 ∧ Row.okWide Try.prog W .any base 41 cs := by
    have := hval 1 41 v1 rfl rfl
    simpa [Value.okWide, Try.underlying41] using this
  obtain ⟨l⟩ := cs
  obtain ⟨fuel, hf⟩ := h1
  obtain ⟨a, b, r, rfl⟩ := open_way hf
  obtain ⟨c0, c1, y0, y1, n2, rfl, _, _, g0, g1⟩ := Go.Joins.open_agg2 Try.underlying39 (by kernel_rfl) (by kernel_rfl) (hval 2 39 v2 rfl rfl) h2
  obtain ⟨z0, rfl, _⟩ := open_i g0
  obtain ⟨z1, rfl, _⟩ := open_i g1
  refine (room_walk P f a b ⟨z0, z1⟩ r (LnE f a b r) (LnV f a b r) W hin (fun Q W' h => lane_any Q f a b r W' h) (fun Q W' h => ?_) LnV_not (fun hE hv Q W' h => ?_) (fun hE hv => ?_)).mono fun e W' ⟨he, hb⟩ => ?_
  · have := lane_any Q f b a r W' h
    rw [LnE_swap, LnV_swap] at this
    exact this
  · obtain ⟨hr, _⟩ := lane_room hE hv
    have ed : r.tdiv 2 = r / 2 := Int.tdiv_eq_ediv_of_nonneg (by omega)
    have e : IntKind.i64.wrap (r.tdiv 2) = r.tdiv 2 := by rw [IntKind.wrap_i64, ed]; omega
    have := lane_any Q f a b (IntKind.i64.wrap (r.tdiv 2)) W' h
    obtain ⟨l1, l2⟩ := lane_half (s := IntKind.i64.wrap (r.tdiv 2)) hE hv (by rw [e, ed]; omega) (by rw [e, ed]; omega)
    rw [l1, l2] at this
    exact this
  · obtain ⟨hr, ha, hb, _⟩ := lane_room hE hv
    unfold okP at ha hb
    exact ⟨by omega, by omega, by omega, fun h1 h2 h3 h4 => lane_side hE hv h1 h2 h3 h4⟩
  · subst he
    exact ⟨_, rfl, law_post laidOut (by kernel_rfl) hb hW' rfl (trodAll_mk1 (shut_bool Try.underlying4 _)) rfl rfl rfl⟩

theorem FenceRoom_proved : Rows.FenceRoomSaid :=
  OpenClaim.holds_of_wide 11 Try.f11 rfl rfl rfl rfl rfl rfl rfl ⟨rfl, rfl, rfl, rfl, rfl⟩ rfl rfl rfl rfl rfl (by kernel_rfl) Try.func11 (by kernel_rfl)
    (of_decide_eq_true (by kernel_rfl)) (by unfold Func.isWrapper; first | (rw [if_pos (by decide +kernel)]; kernel_rfl) | (rw [if_neg (by decide +kernel)]; exact ⟨rfl, rfl⟩))
    (fun os started H enc _ => room_lifted os started H enc)
#print axioms FenceRoom_proved
end Go.Proofs.Ytigcbldbolablaa
