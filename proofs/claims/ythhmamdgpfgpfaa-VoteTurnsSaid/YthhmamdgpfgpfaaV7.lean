/- A voter that is as it must be stays so; a tick of such a voter. -/
import Derived.Test.YthhmamdgpfgpfaaV6
namespace Go.Proofs.Ythhmamdgpfgpfaa
open Go.RowKit

def i64 (x : Int) : Prop := -9223372036854775808 ≤ x ∧ x < 9223372036854775808
def Rd.wf (r : Rd) : Prop := -9223372036854775808 ≤ r.x ∧ r.x < 9223372036854775808
structure Vr.ok (s : Vr) : Prop where
  st : 0 ≤ s.stale
  st1 : s.stale < 65535
  sp : 0 ≤ s.split
  n : 0 ≤ s.sp ∧ s.sp ≤ 65535
  a0 : 0 ≤ s.a0 ∧ s.a0 ≤ 65535
  a1 : 0 ≤ s.a1 ∧ s.a1 ≤ 65535
  a2 : 0 ≤ s.a2 ∧ s.a2 ≤ 65535
  v0 : i64 s.v0
  v1 : i64 s.v1
  v2 : i64 s.v2

theorem nv_i64 {r : Rd} {v : Int} (hr : r.wf) (hv : i64 v) : i64 (nv r v) := by
  unfold nv
  split
  · exact hr
  · exact hv
theorem na_le (r : Rd) {a : Int} (h : 0 ≤ a ∧ a ≤ 65535) : 0 ≤ na r a ∧ na r a ≤ 65535 := by
  unfold na imin
  split
  · omega
  · split <;> omega
theorem mem_inc {st a v z : Int} (h : z ∈ inc st a v) : z = v := by
  unfold inc at h
  split at h
  · simpa using h
  · simp at h
theorem vl3 (s : Vr) (r0 r1 r2 : Rd) : vlK s r0 r1 r2 3 = inc s.stale (na r0 s.a0) (nv r0 s.v0) ++ (inc s.stale (na r1 s.a1) (nv r1 s.v1) ++ inc s.stale (na r2 s.a2) (nv r2 s.v2)) := by simp [vlK]
theorem vl_i64 {s : Vr} {r0 r1 r2 : Rd} (h : s.ok) (h0 : r0.wf) (h1 : r1.wf) (h2 : r2.wf) : ∀ z ∈ vlK s r0 r1 r2 3, i64 z := by
  intro z hz
  rw [vl3] at hz
  rcases List.mem_append.1 hz with hz | hz
  · rw [mem_inc hz]; exact nv_i64 h0 h.v0
  · rcases List.mem_append.1 hz with hz | hz
    · rw [mem_inc hz]; exact nv_i64 h1 h.v1
    · rw [mem_inc hz]; exact nv_i64 h2 h.v2
theorem fin_eq (s : Vr) (r0 r1 r2 : Rd) : fin s r0 r1 r2 = ⟨s.stale, s.split, nv r0 s.v0, nv r1 s.v1, nv r2 s.v2, na r0 s.a0, na r1 s.a1, na r2 s.a2, spl s.split s.sp (vlK s r0 r1 r2 3)⟩ := by
  simp [fin, stK]
theorem fin_ok {s : Vr} {r0 r1 r2 : Rd} (h : s.ok) (h0 : r0.wf) (h1 : r1.wf) (h2 : r2.wf) : (fin s r0 r1 r2).ok := by
  rw [fin_eq]
  refine ⟨h.st, h.st1, h.sp, ?_, na_le _ h.a0, na_le _ h.a1, na_le _ h.a2, nv_i64 h0 h.v0, nv_i64 h1 h.v1, nv_i64 h2 h.v2⟩
  have := h.n
  show 0 ≤ spl _ _ _ ∧ spl _ _ _ ≤ 65535
  unfold spl imin
  split
  · split <;> omega
  · omega

theorem step_ok (b : Nat) (s : Vr) (r0 r1 r2 : Rd) (w : World) (hv : w.heap[b]? = some (vb s)) (h : s.ok) (h0 : r0.wf) (h1 : r1.wf) (h2 : r2.wf) :
    Calls Try.prog 14 #[.pointer (some ⟨b, 0, none⟩), ub r0 r1 r2] w fun e w' =>
      e = .returned (.agg #[.bool (decide ((vlK s r0 r1 r2 3).length ≠ 0)), .int .i64 (pick (vlK s r0 r1 r2 3))]) ∧ Put w.heap.size w w' b (vb (fin s r0 r1 r2)) :=
  step_any b s r0 r1 r2 w hv h.st h.sp (vl_i64 h h0 h1 h2) h.n h.a0 h.a1 h.a2

theorem si_wf : si.wf := by unfold Rd.wf si; simp
theorem awake_later {w : World} {n : Later w} : Calls Try.prog 11 #[] (lat w n) fun e w'' => e = .returned (.bool true) ∧ ∃ m : Later w, w'' = lat w m := later_of (awake_any _)
def new0 (stale split : Int) : Vr := ⟨stale, split, 0, 0, 0, 65535, 65535, 65535, 0⟩
theorem new0_ok {stale split : Int} (h0 : 0 ≤ stale) (h1 : stale < 65535) (h2 : 0 ≤ split) : (new0 stale split).ok := by
  refine ⟨h0, h1, h2, ?_, ?_, ?_, ?_, ?_, ?_, ?_⟩ <;> simp [new0, i64]

def wit (n : Int) (lo hi : Int) : Bool := decide (lo ≤ n) && decide (n ≤ hi)
theorem within_any (n lo hi : Int) (w : World) : Calls Try.prog 16 #[.int .i64 n, .agg #[.int .i64 lo, .int .i64 hi]] w fun e w' => e = .returned (.bool (wit n lo hi)) ∧ Below w.heap.size w w' := by
  by_cases h : lo ≤ n
  · have hd : decide (lo ≤ n) = true := decide_eq_true h
    go_enter Try.func16, Try.ntmps16
    go_wp2
    go_ret
    exact ⟨by rw [wit, hd]; simp, by go_grown⟩
  · have hd : decide (lo ≤ n) = false := decide_eq_false h
    go_enter Try.func16, Try.ntmps16
    go_wp2
    go_ret
    exact ⟨by rw [wit, hd]; rfl, by go_grown⟩
theorem within_later {w : World} {k : Later w} (n lo hi : Int) : Calls Try.prog 16 #[.int .i64 n, .agg #[.int .i64 lo, .int .i64 hi]] (lat w k) fun e w'' => e = .returned (.bool (wit n lo hi)) ∧ ∃ m : Later w, w'' = lat w m := later_of (within_any n lo hi _)
end Go.Proofs.Ythhmamdgpfgpfaa
