/- From a walk to a row: what a law's row asks behind the call, where the call has only made memory; an array of three readings, opened. -/
import Derived.Test.YthhmamdgpfgpfaaRows
import Derived.Test.YthhmamdgpfgpfaaV7
import Derived.ProofKit
import Derived.OpenShut
import Derived.Lib.SmallJoins
namespace Go.Proofs.Ythhmamdgpfgpfaa
open Go.ChangeShapes Go.WideShapes Go.ChangeAt Go.RowKit

theorem own : ownKnob Try.prog.godebug = none := by kernel_rfl
theorem laidOut : laidOutB Try.prog = true := by kernel_rfl

section
variable {H : Type} {enc : TypeId × Value → H} {P : Program}
theorem trodAll_later (hl : laidOutB P = true) {W W' : World} (hb : Below W.heap.size W W') : ∀ (ts : List TypeId) (vs : List Value) (ds : List (DataW H)) (ps : List MemPlace),
    (ts.all fun t => P.readableRec t && decide (t < P.types.size)) = true → DataW.TrodAll enc P W 0 (fun _ => true) true ts vs ds ps → (∀ x ∈ ps, x.block < W.heap.size) →
    DataW.TrodAll enc P W' 0 (fun b => decide (b < W.heap.size)) true ts vs ds ps
  | [], vs, ds, ps, _, h, _ => by
    obtain ⟨rfl, rfl, rfl⟩ := trodAll_nil h
    exact trodAll_mk0
  | t :: ts, vs, ds, ps, ht, h, hlt => by
    obtain ⟨v, vs1, d, ds1, a, b, rfl, rfl, rfl, h1, h2⟩ := trodAll_cons h
    simp only [List.all_cons, Bool.and_eq_true, decide_eq_true_eq] at ht
    exact trodAll_cons_mk (Below.trod hl ht.1.1 ht.1.2 h1 hb (fun x hx => hlt x (List.mem_append.2 (.inl hx))))
      (trodAll_later hl hb ts vs1 ds1 b (by simpa using ht.2) h2 (fun x hx => hlt x (List.mem_append.2 (.inr hx))))

theorem law_post {f : Func} {s : ChangeSpec} {W W' : World} {args : Array Value} {ds gs : List (DataW H)} {before : List MemPlace}
    (hl : laidOutB P = true) (hts : (f.params.toList.all fun t => P.readableRec t && decide (t < P.types.size)) = true) (hb : Below W.heap.size W W')
    (hW : DataW.Whole enc P f.params.toList s.vars false W args.toList ds gs before) (hv : s.vars = [])
    (hres : DataW.TrodAll enc P W' W.heap.size (fun _ => false) false f.resultTypes.toList ((Value.bool true).resultList f.resultTypes.size) [.lit (.bool true)] [])
    (hr : (s.fn H (ds ++ gs)).results = [.lit (.bool true)]) (ha : (s.fn H (ds ++ gs)).args = ds) (hvv : (s.fn H (ds ++ gs)).vars = []) :
    s.post enc P f false true false false W args (.bool true) W' := by
  have hW' := hW
  obtain ⟨p, q, hA, hV, rfl, _, _⟩ := hW
  rw [hv] at hV
  obtain ⟨rfl, rfl⟩ := trodVars_none hV
  rw [List.append_nil] at hW'
  refine ⟨ds, [], p, [], p, [], hW', by rw [hr]; exact hres, ?_, by rw [hv, hvv]; rfl, hb.frame _, fun h => nomatch h⟩
  rw [ha]
  exact trodAll_later hl hb _ _ _ _ hts hA (fun x hx => by simpa using hW'.lt x hx)
end

theorem cells36 : Try.prog.cellsOf 36 = 2 := by kernel_rfl
theorem cells38 : Try.prog.cellsOf 38 = 6 := by kernel_rfl
theorem six_of {α : Type} {l : List α} (h : l.length = 6) : ∃ a b c d e f, l = [a, b, c, d, e, f] := by
  match l, h with
  | [a, b, c, d, e, f], _ => exact ⟨a, b, c, d, e, f, rfl⟩
theorem triple_of {α : Type} {l : List α} (h : l.length = 3) : ∃ a b c, l = [a, b, c] := by
  match l, h with
  | [a, b, c], _ => exact ⟨a, b, c, rfl⟩

section
variable {H : Type} {enc : TypeId × Value → H} {W : World} {base : Nat} {sp : Nat → Bool} {held : Bool}
theorem open_rd {m : Nat} {c0 c1 : Value} {x : DataW H × List MemPlace} (h : DataW.trod enc Try.prog W base sp held m 36 [c0, c1] = some x) : ∃ r : Rd, c0 = .bool r.ok ∧ c1 = .int .i64 r.x ∧ r.wf := by
  obtain ⟨y0, y1, n, hx, _, h0, h1⟩ := trod_struct2 Try.underlying36 h
  have k4 : Try.prog.cellsOf 4 = 1 := by kernel_rfl
  have k3 : Try.prog.cellsOf 3 = 1 := by kernel_rfl
  simp only [k4, k3] at h0 h1
  obtain ⟨b, e0, _⟩ := DataW.trod_bool Try.underlying4 h0
  obtain ⟨z, e1, _, wz⟩ := DataW.trod_int Try.underlying3 h1
  simp at e0 e1
  have bz := bounds_i64 wz
  exact ⟨⟨b, z⟩, e0, e1, ⟨bz.1, by show z < _; omega⟩⟩
theorem open_rds {l : List Value} {m : Nat} {x : DataW H × List MemPlace} (h : DataW.trod enc Try.prog W base sp held m 38 l = some x) :
    ∃ r0 r1 r2 : Rd, l = [.bool r0.ok, .int .i64 r0.x, .bool r1.ok, .int .i64 r1.x, .bool r2.ok, .int .i64 r2.x] ∧ r0.wf ∧ r1.wf ∧ r2.wf := by
  obtain ⟨xs, n, _, _, hl, hn, hi⟩ := DataW.trod_array Try.underlying38 h
  rw [cells38] at hl
  obtain ⟨a, b, c, d, e, f, rfl⟩ := six_of hl
  obtain ⟨y0, y1, y2, rfl⟩ := triple_of hn
  have g0 := hi 0 (by omega)
  have g1 := hi 1 (by omega)
  have g2 := hi 2 (by omega)
  simp only [cells36] at g0 g1 g2
  obtain ⟨r0, rfl, rfl, w0⟩ := open_rd g0
  obtain ⟨r1, rfl, rfl, w1⟩ := open_rd g1
  obtain ⟨r2, rfl, rfl, w2⟩ := open_rd g2
  exact ⟨r0, r1, r2, rfl, w0, w1, w2⟩
end
end Go.Proofs.Ythhmamdgpfgpfaa
