/- What is wrong with a polygon. -/
import Derived.Test.YtigcbldbolablaaA7
namespace Go.Proofs.Ytigcbldbolablaa
open Go.RowKit

set_option maxHeartbeats 1000000 in
theorem simple_any (A : Option Addr) (c : Nat) (l : List Pt) (w : World) (hr : Pts w A l) (hm : l.length ≤ 4611686018427387904) :
    Calls Try.prog 46 #[.slice A l.length c] w fun e w' => e = .returned (.int .i64 (smp l)) ∧ Below w.heap.size w w' := by
  unfold smp
  by_cases h3 : l.length < 3
  · rw [if_pos h3]
    have HR := hid hr
    clear hr
    refine (callsIn_wide (n := 9)).1 (callsIn_of_wp_marks Try.func46 rfl trivial ?_ rfl)
    simp only [Try.ntmps46, List.size_toArray, List.length_cons, List.length_nil, Nat.reduceAdd, Nat.reduceSub, Array.replicate_succ, Array.replicate_zero, List.push_toArray, List.append_toArray, List.nil_append, List.cons_append]
    gi_wp2
    refine ⟨_, ?_, rfl, (Below.refl _ _).alloc (Nat.le_refl _) _⟩
    simp [results, Try.f46, go_sem]
  · rw [if_neg h3]
    by_cases h64 : l.length > 64
    · rw [if_pos h64]
      have HR := hid hr
      clear hr
      refine (callsIn_wide (n := 9)).1 (callsIn_of_wp_marks Try.func46 rfl trivial ?_ rfl)
      simp only [Try.ntmps46, List.size_toArray, List.length_cons, List.length_nil, Nat.reduceAdd, Nat.reduceSub, Array.replicate_succ, Array.replicate_zero, List.push_toArray, List.append_toArray, List.nil_append, List.cons_append]
      gi_wp2
      refine ⟨_, ?_, rfl, (Below.refl _ _).alloc (Nat.le_refl _) _⟩
      simp [results, Try.f46, go_sem]
    · rw [if_neg h64]
      by_cases hg : l.any badP = true
      · rw [if_pos hg]
        have HG := hid hg
        have HR := hid hr
        clear hr hg
        refine (callsIn_wide (n := 9)).1 (callsIn_of_wp_marks Try.func46 rfl trivial ?_ rfl)
        simp only [Try.ntmps46, List.size_toArray, List.length_cons, List.length_nil, Nat.reduceAdd, Nat.reduceSub, Array.replicate_succ, Array.replicate_zero, List.push_toArray, List.append_toArray, List.nil_append, List.cons_append]
        gi_wp2_with fail
        refine ⟨trivial, ?_⟩
        refine (fits_in _ _ _ _ _ (HR.out.below ((Below.refl _ _).alloc (Nat.le_refl _) _)) (by omega)).mono ?_
        rw [HG.out]
        rintro e w1 ⟨rfl, hb1⟩
        have hr1 : w1.cell? ⟨w.heap.size, 0, none⟩ = some (.int .i64 0) := (hb1.cell (p := ⟨w.heap.size, 0, none⟩) (by simp)).trans (cell_new _ _ _ _)
        have hf1 : w1.frozen? ⟨w.heap.size, 0, none⟩ = false := (hb1.frozen (p := ⟨w.heap.size, 0, none⟩) (by simp)).trans (frozen_new _ _ _ _)
        have hB := hid (below_then ((Below.refl _ _).alloc (Nat.le_refl _) _) (by simp) hb1)
        clear hb1
        gi_wp2
        refine ⟨.int .i64 5, ?_, rfl, hB.out.setCell (p := ⟨w.heap.size, 0, none⟩) (Nat.le_refl _) _⟩
        have hc5 := World.cell?_setCell_same' w1 ⟨w.heap.size, 0, none⟩ (.int .i64 5) (by rw [hr1]; rfl)
        simp [results, Try.f46, go_sem, hc5]
      · rw [if_neg hg]
        exact simple_long A c l w hr (by omega) (by omega) (by simpa using hg)
end Go.Proofs.Ytigcbldbolablaa
