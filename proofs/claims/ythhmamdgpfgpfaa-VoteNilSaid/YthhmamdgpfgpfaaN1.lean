/- The law VoteNil, walked: no voter votes for nothing. -/
import Derived.Test.YthhmamdgpfgpfaaV6
namespace Go.Proofs.Ythhmamdgpfgpfaa
open Go.RowKit
attribute [local go_sem] Oper.semAt_some

set_option maxRecDepth 100000 in
set_option maxHeartbeats 2000000 in
theorem nil_any (r0 r1 r2 : Rd) (w : World) : Calls Try.prog 8 #[ub r0 r1 r2] w fun e w' => e = .returned (.bool true) ∧ Below w.heap.size w w' := by
  go_enter Try.func8, Try.ntmps8
  have q36 := eq36
  have q27 := eq27
  go_wp2_with fail
  refine (awake_any _).mono ?_
  rintro e w1 ⟨rfl, hb1⟩
  have hz := hb1.size
  simp only [World.size_alloc] at hz
  have hB1 : Below w.heap.size w w1 := ((Below.refl _ w).alloc (Nat.le_refl _) _).trans (hb1.mono (by simp))
  have hc : w1.cell? ⟨w.heap.size, 0, none⟩ = some (.bool r0.ok) ∧ w1.cell? ⟨w.heap.size, 1, none⟩ = some (.int .i64 r0.x) ∧ w1.cell? ⟨w.heap.size, 2, none⟩ = some (.bool r1.ok) ∧ w1.cell? ⟨w.heap.size, 3, none⟩ = some (.int .i64 r1.x) ∧ w1.cell? ⟨w.heap.size, 4, none⟩ = some (.bool r2.ok) ∧ w1.cell? ⟨w.heap.size, 5, none⟩ = some (.int .i64 r2.x) := by
    refine ⟨?_, ?_, ?_, ?_, ?_, ?_⟩ <;> (rw [hb1.cell (by simp)]; simp [go_sem])
  obtain ⟨c0, c1, c2, c3, c4, c5⟩ := hc
  replace hb1 := hid hb1
  replace hB1 := hid hB1
  go_wp2_with fail
  refine (step_nil r0 r1 r2 _).mono ?_
  rintro e w2 ⟨rfl, hb2⟩
  have hB2 := hid (hB1.out.trans (hb2.mono hB1.out.size))
  clear hb2
  go_wp2_with fail
  refine (ages_nil _).mono ?_
  rintro e w3 ⟨rfl, hb3⟩
  have hB3 := hid (hB2.out.trans (hb3.mono hB2.out.size))
  clear hb3
  go_wp2_with fail
  refine (splits_nil _).mono ?_
  rintro e w4 ⟨rfl, hw4⟩
  rw [hw4]
  go_wp2
  go_ret
  exact ⟨rfl, hB3.out⟩
end Go.Proofs.Ythhmamdgpfgpfaa
