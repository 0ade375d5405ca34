/- From a walk to a row: what a law's row asks behind the call, where the call has only made memory; a fence that came in, opened. -/
import Derived.Test.YtigcbldbolablaaRows
import Derived.Test.YtigcbldbolablaaA28
import Derived.ProofKit
import Derived.OpenShut
import Derived.Lib.SmallJoins
import Derived.Deep.SlicePairs
import Derived.SizedLaws
namespace Go.Proofs.Ytigcbldbolablaa
open Go.ChangeShapes Go.WideShapes Go.ChangeAt Go.RowKit Go.Deep

theorem own : ownKnob Try.prog.godebug = none := by kernel_rfl
theorem laidOut : laidOutB Try.prog = true := by kernel_rfl

section
variable {H : Type} {enc : TypeId × Value → H} {P : Program}
theorem trodAll_later (hl : laidOutB P = true) {W W' : World} (hb : Below W.heap.size W W') : ∀ (ts : List TypeId) (vs : List Value) (ds : List (DataW H)) (ps : List MemPlace),
    (ts.all fun t => P.readableRec t && decide (t < P.types.size)) = true → DataW.TrodAll enc P W 0 (fun _ => true) true ts vs ds ps → (∀ x ∈ ps, x.block < W.heap.size) →
    DataW.TrodAll enc P W' 0 (fun b => decide (b < W.heap.size)) true ts vs ds ps
  | [], vs, ds, ps, _, h, _ => by
    obtain ⟨rfl, rfl, rfl⟩ := trodAll_nil h
    exact trodAll_mk0
  | t :: ts, vs, ds, ps, ht, h, hlt => by
    obtain ⟨v, vs1, d, ds1, a, b, rfl, rfl, rfl, h1, h2⟩ := trodAll_cons h
    simp only [List.all_cons, Bool.and_eq_true, decide_eq_true_eq] at ht
    exact trodAll_cons_mk (Below.trod hl ht.1.1 ht.1.2 h1 hb (fun x hx => hlt x (List.mem_append.2 (.inl hx))))
      (trodAll_later hl hb ts vs1 ds1 b (by simpa using ht.2) h2 (fun x hx => hlt x (List.mem_append.2 (.inr hx))))

theorem law_post {f : Func} {s : ChangeSpec} {W W' : World} {args : Array Value} {ds gs : List (DataW H)} {before : List MemPlace}
    (hl : laidOutB P = true) (hts : (f.params.toList.all fun t => P.readableRec t && decide (t < P.types.size)) = true) (hb : Below W.heap.size W W')
    (hW : DataW.Whole enc P f.params.toList s.vars false W args.toList ds gs before) (hv : s.vars = [])
    (hres : DataW.TrodAll enc P W' W.heap.size (fun _ => false) false f.resultTypes.toList ((Value.bool true).resultList f.resultTypes.size) [.lit (.bool true)] [])
    (hr : (s.fn H (ds ++ gs)).results = [.lit (.bool true)]) (ha : (s.fn H (ds ++ gs)).args = ds) (hvv : (s.fn H (ds ++ gs)).vars = []) :
    s.post enc P f false true false false W args (.bool true) W' := by
  have hW' := hW
  obtain ⟨p, q, hA, hV, rfl, _, _⟩ := hW
  rw [hv] at hV
  obtain ⟨rfl, rfl⟩ := trodVars_none hV
  rw [List.append_nil] at hW'
  refine ⟨ds, [], p, [], p, [], hW', by rw [hr]; exact hres, ?_, by rw [hv, hvv]; rfl, hb.frame _, fun h => nomatch h⟩
  rw [ha]
  exact trodAll_later hl hb _ _ _ _ hts hA (fun x hx => by simpa using hW'.lt x hx)
end

theorem wf_in {z : Int} (h : (Lit.int .i64 z).wf = true) : -9223372036854775808 ≤ z ∧ z < 9223372036854775808 := by
  have := bounds_i64 h
  exact ⟨this.1, by omega⟩
theorem k22 : Try.prog.cellsOf 22 = 1 := by kernel_rfl
theorem k3 : Try.prog.cellsOf 3 = 1 := by kernel_rfl
theorem k39 : Try.prog.cellsOf 39 = 2 := by kernel_rfl
theorem k32 : Try.prog.cellsOf 32 = 2 := by kernel_rfl
theorem k34 : Try.prog.cellsOf 34 = 6 := by kernel_rfl
theorem by39 : Try.prog.bytesOf 39 = 16 := by kernel_rfl
section
variable {H : Type} {enc : TypeId × Value → H} {W : World} {base : Nat} {sp : Nat → Bool} {held : Bool}
theorem open_i {m : Nat} {c : Value} {x : DataW H × List MemPlace} (h : DataW.trod enc Try.prog W base sp held m 3 [c] = some x) : ∃ z : Int, c = .int .i64 z ∧ (-9223372036854775808 ≤ z ∧ z < 9223372036854775808) := by
  obtain ⟨z, e, _, wz⟩ := DataW.trod_int Try.underlying3 h
  simp at e
  exact ⟨z, e, wf_in wz⟩
theorem open_pts {m : Nat} {v : Value} {x : DataW H × List MemPlace} (h : DataW.trod enc Try.prog W base sp held m 22 [v] = some x) :
    ∃ A c l, v = .slice A l.length c ∧ Pts W A l ∧ (A = none → c = 0) ∧ ((∀ n ∈ DataW.weights Try.prog 22 x.1, n ≤ reachBytes) → l.length * 16 ≤ 140737488351232) := by
  rcases open_slice_pairs Try.underlying22 Try.underlying39 k39 rfl rfl k3 k3 h with ⟨hcs, _⟩ | ⟨a, len, cap, mm, n, V0, V1, D0, D1, P0, P1, hcs, hb, hl, hm, hmm, hx, hi⟩
  · simp at hcs
    exact ⟨none, 0, [], hcs, Pts.nil _ _, fun _ => rfl, fun _ => by simp⟩
  · simp at hcs
    have hlm : len ≤ mm := by rw [hmm]; split <;> omega
    have each : ∀ i, i < len → ∃ p : Pt, W.cell? (a.add (i * 2)) = some (.int .i64 p.x) ∧ W.cell? (a.add (i * 2 + 1)) = some (.int .i64 p.y) := by
      intro i hil
      obtain ⟨e0, e1, t0, t1⟩ := hi i (by omega)
      obtain ⟨z0, h0, _⟩ := open_i t0
      obtain ⟨z1, h1, _⟩ := open_i t1
      rw [h0] at e0
      rw [h1] at e1
      exact ⟨⟨z0, z1⟩, e0, e1⟩
    have : ∃ q : Nat → Pt, ∀ i, i < len → W.cell? (a.add (i * 2)) = some (.int .i64 (q i).x) ∧ W.cell? (a.add (i * 2 + 1)) = some (.int .i64 (q i).y) := by
      refine ⟨fun i => if h : i < len then Classical.choose (each i h) else ⟨0, 0⟩, fun i hi' => ?_⟩
      simp only [dif_pos hi']
      exact Classical.choose_spec (each i hi')
    obtain ⟨q, hq⟩ := this
    refine ⟨some a, cap, (List.range len).map q, by rw [hcs]; simp, fun k hk => ?_, fun e => (by cases e), fun hw => ?_⟩
    · have hk' : k < len := by simpa using hk
      obtain ⟨e0, e1⟩ := hq k hk'
      have eg : ((List.range len).map q).getD k z0 = q k := by simp [List.getD_eq_getElem?_getD, List.getElem?_range hk']
      rw [eg]
      refine ⟨a, rfl, ?_, e0, ?_⟩
      · have := World.block_lt_of_cell? W _ e0
        rw [add_blk] at this
        exact this
      · have ea : (⟨(a.add (k * 2)).block, (a.add (k * 2)).off + 1, none⟩ : Addr) = a.add (k * 2 + 1) := by
          rw [add_blk, add_off, add_pos (show k * 2 + 1 ≠ 0 by omega), Nat.add_assoc]
        rw [ea]
        exact e1
    · have hw' := hw ((len + (mm - len)) * Try.prog.bytesOf 39) (by rw [hx]; simp [DataW.weights, Try.underlying22])
      rw [by39] at hw'
      have := reachBytes_lt
      simp only [reachBytes] at hw'
      simp
      omega
set_option maxRecDepth 100000 in
theorem open_fence {r : Reach} {b0 : Nat} {v : Value} {d : DataW H} {p : List MemPlace} (hv : Value.okWide Try.prog W r b0 24 v) (h : DataW.Trod enc Try.prog W base sp held 24 v d p) (hw : ∀ n ∈ DataW.weights Try.prog 24 d, n ≤ reachBytes) :
    ∃ (P : FP) (f : Fn), v = .agg #[.slice P.A f.poly.length P.c, .int .i64 f.fl, .int .i64 f.ce, .slice P.B f.rl.length P.d] ∧ FIn W P f := by
  obtain ⟨v0, v1, v2, v3, y0, y1, y2, y3, n, rfl, rfl, _, g0, g1, g2, g3⟩ := Go.Joins.open_agg4 Try.underlying24 (by kernel_rfl) (by kernel_rfl) hv h
  obtain ⟨A, c, l, rfl, hp, ha, hs⟩ := open_pts g0
  obtain ⟨z1, rfl, _⟩ := open_i g1
  obtain ⟨z2, rfl, _⟩ := open_i g2
  obtain ⟨B, d, m, rfl, hq, hb, ht⟩ := open_pts g3
  have hl := hs (fun n hn => hw n (by simp only [DataW.weights, Try.underlying24, DataW.weightsEach, List.map_cons]; exact List.mem_append_left _ hn))
  have hm := ht (fun n hn => hw n (by simp only [DataW.weights, Try.underlying24, DataW.weightsEach, List.map_cons]; exact List.mem_append_right _ (List.mem_append_right _ (List.mem_append_right _ (List.mem_append_left _ hn)))))
  exact ⟨⟨A, c, B, d⟩, ⟨l, z1, z2, m⟩, rfl, ⟨hp, hq, by show l.length ≤ _; omega, by show m.length ≤ _; omega⟩, ha, hb, hl, hm⟩
theorem six_of {α : Type} {l : List α} (h : l.length = 6) : ∃ a b c d e f, l = [a, b, c, d, e, f] := by
  match l, h with
  | [a, b, c, d, e, f], _ => exact ⟨a, b, c, d, e, f, rfl⟩
theorem open_span {m : Nat} {c0 c1 : Value} {x : DataW H × List MemPlace} (h : DataW.trod enc Try.prog W base sp held m 32 [c0, c1] = some x) : ∃ s : Sp, c0 = .int .i64 s.lo ∧ c1 = .int .i64 s.hi := by
  obtain ⟨y0, y1, n, hx, _, h0, h1⟩ := trod_struct2 Try.underlying32 h
  simp only [k3] at h0 h1
  obtain ⟨z0, e0, _⟩ := open_i h0
  obtain ⟨z1, e1, _⟩ := open_i h1
  exact ⟨⟨z0, z1⟩, e0, e1⟩
end
end Go.Proofs.Ytigcbldbolablaa
