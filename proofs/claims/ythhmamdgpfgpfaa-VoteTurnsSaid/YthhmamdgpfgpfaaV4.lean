/- The ages and the splits of a voter, and what no voter answers. -/
import Derived.Test.YthhmamdgpfgpfaaV3
namespace Go.Proofs.Ythhmamdgpfgpfaa
open Go.RowKit

theorem ages_any (b : Nat) (s : Vr) (w : World) (hv : w.heap[b]? = some (vb s)) :
    Calls Try.prog 12 #[.pointer (some ⟨b, 0, none⟩)] w fun e w' => e = .returned (.agg #[.int .i64 s.a0, .int .i64 s.a1, .int .i64 s.a2]) ∧ Below w.heap.size w w' := by
  have hlt : b < w.heap.size := (Array.getElem?_eq_some_iff.1 hv).1
  obtain ⟨⟨_, _, _, _, _, c5, c6, c7, _⟩, _⟩ := vb_cells hv
  replace hv := hid hv
  go_enter Try.func12, Try.ntmps12
  go_wp2
  refine bodyPost_ret (v := .agg #[.int .i64 s.a0, .int .i64 s.a1, .int .i64 s.a2]) (by simp [results, Try.results12, go_sem]) rfl ⟨rfl, by go_grown⟩

theorem splits_any (b : Nat) (s : Vr) (w : World) (hv : w.heap[b]? = some (vb s)) :
    Calls Try.prog 13 #[.pointer (some ⟨b, 0, none⟩)] w fun e w' => e = .returned (.int .i64 s.sp) ∧ w' = w := by
  have hlt : b < w.heap.size := (Array.getElem?_eq_some_iff.1 hv).1
  obtain ⟨⟨_, _, _, _, _, _, _, _, c8⟩, _⟩ := vb_cells hv
  replace hv := hid hv
  go_enter Try.func13, Try.ntmps13
  go_wp2
  go_ret
  exact ⟨rfl, rfl⟩

theorem ages_nil (w : World) :
    Calls Try.prog 12 #[.pointer none] w fun e w' => e = .returned (.agg #[.int .i64 0, .int .i64 0, .int .i64 0]) ∧ Below w.heap.size w w' := by
  go_enter Try.func12, Try.ntmps12
  go_wp2
  refine bodyPost_ret (v := .agg #[.int .i64 0, .int .i64 0, .int .i64 0]) (by simp [results, Try.results12, go_sem]) rfl ⟨rfl, by go_grown⟩

theorem splits_nil (w : World) :
    Calls Try.prog 13 #[.pointer none] w fun e w' => e = .returned (.int .i64 0) ∧ w' = w := by
  go_enter Try.func13, Try.ntmps13
  go_wp2
  go_ret
  exact ⟨rfl, rfl⟩

theorem step_nil (r0 r1 r2 : Rd) (w : World) :
    Calls Try.prog 14 #[.pointer none, ub r0 r1 r2] w fun e w' => e = .returned (.agg #[.bool false, .int .i64 0]) ∧ Below w.heap.size w w' := by
  go_enter Try.func14, Try.ntmps14
  go_wp2
  refine bodyPost_ret (v := .agg #[.bool false, .int .i64 0]) (by simp [results, Try.results14, go_sem]) rfl ⟨rfl, by go_grown⟩
end Go.Proofs.Ythhmamdgpfgpfaa
