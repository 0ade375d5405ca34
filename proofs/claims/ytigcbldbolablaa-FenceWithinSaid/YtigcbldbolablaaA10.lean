/- On which side of a polygon a point is. -/
import Derived.Test.YtigcbldbolablaaA9
namespace Go.Proofs.Ytigcbldbolablaa
open Go.RowKit

set_option maxRecDepth 100000 in
set_option maxHeartbeats 2000000 in
theorem side_bad (A : Option Addr) (c : Nat) (l : List Pt) (p : Pt) (w : World) (hr : Pts w A l) (hm : l.length ≤ 4611686018427387904) (hs : smp l ≠ 0) :
    Calls Try.prog 34 #[.slice A l.length c, .agg #[.int .i64 p.x, .int .i64 p.y]] w fun e w' => e = .returned (.tuple #[.int .i64 0, .int .i64 (smp l)]) ∧ Below w.heap.size w w' := by
  have HS := hid hs
  have HR := hid hr
  have hb := bne_iff_ne.2 hs
  clear hr hs
  refine (callsIn_wide (n := 9)).1 (callsIn_of_wp_marks Try.func34 rfl trivial ?_ rfl)
  simp only [Try.ntmps34, List.size_toArray, List.length_cons, List.length_nil, Nat.reduceAdd, Nat.reduceSub, Array.replicate_succ, Array.replicate_zero, List.push_toArray, List.append_toArray, List.nil_append, List.cons_append]
  gi_wp2_with fail
  refine ⟨trivial, ?_⟩
  refine (simple_in _ _ _ _ _ (HR.out.below ((((Below.refl _ _).alloc (Nat.le_refl _) _).alloc (by simp) _).alloc (by simp; omega) _)) hm).mono ?_
  rintro e w1 ⟨rfl, hb1⟩
  obtain ⟨hc, hf⟩ := bcell hb1
  have hq0 : w1.cell? ⟨w.heap.size + 1, 0, none⟩ = some (.int .i64 0) := by rw [hc _ _ (by simp)]; simp [go_sem]
  have hq1 : w1.cell? ⟨w.heap.size + 1 + 1, 0, none⟩ = some (.int .i64 0) := by rw [hc _ _ (by simp)]; simp [go_sem]
  have hz0 : w1.frozen? ⟨w.heap.size + 1, 0, none⟩ = false := by rw [hf _ _ (by simp)]; simp [go_sem]
  have hz1 : w1.frozen? ⟨w.heap.size + 1 + 1, 0, none⟩ = false := by rw [hf _ _ (by simp)]; simp [go_sem]
  have HB := hid (below_then ((((Below.refl w.heap.size w).alloc (Nat.le_refl _) _).alloc (by simp) _).alloc (by simp; omega) _) (by simp; omega) hb1)
  clear hc hf hb1
  gi_wp2
  have e4 : (w1.setCell ⟨w.heap.size + 1, 0, none⟩ (.int .i64 0)).cell? ⟨w.heap.size + 1, 0, none⟩ = some (.int .i64 0) := World.cell?_setCell_same' _ _ _ (by rw [hq0]; rfl)
  have e5 : ((w1.setCell ⟨w.heap.size + 1, 0, none⟩ (.int .i64 0)).setCell ⟨w.heap.size + 1 + 1, 0, none⟩ (.int .i64 (smp l))).cell? ⟨w.heap.size + 1, 0, none⟩ = some (.int .i64 0) := (World.cell?_of_block (Below.heap_setCell _ ⟨w.heap.size + 1 + 1, 0, none⟩ _ _ (by show w.heap.size + 1 ≠ w.heap.size + 1 + 1; omega))).trans e4
  have e6 : (w1.setCell ⟨w.heap.size + 1, 0, none⟩ (.int .i64 0)).cell? ⟨w.heap.size + 1 + 1, 0, none⟩ = some (.int .i64 0) := (World.cell?_of_block (Below.heap_setCell _ ⟨w.heap.size + 1, 0, none⟩ _ _ (by show w.heap.size + 1 + 1 ≠ w.heap.size + 1; omega))).trans hq1
  have e7 := World.cell?_setCell_same' (w1.setCell ⟨w.heap.size + 1, 0, none⟩ (.int .i64 0)) ⟨w.heap.size + 1 + 1, 0, none⟩ (.int .i64 (smp l)) (by rw [e6]; rfl)
  refine ⟨.tuple #[.int .i64 0, .int .i64 (smp l)], ?_, rfl, (HB.out.setCell (p := ⟨w.heap.size + 1, 0, none⟩) (by show w.heap.size ≤ w.heap.size + 1; omega) _).setCell (p := ⟨w.heap.size + 1 + 1, 0, none⟩) (by show w.heap.size ≤ w.heap.size + 1 + 1; omega) _⟩
  simp [results, Try.f34, go_sem, e5, e7]

set_option maxRecDepth 100000 in
set_option maxHeartbeats 2000000 in
theorem side_out (A : Option Addr) (c : Nat) (l : List Pt) (p : Pt) (w : World) (hr : Pts w A l) (hs : smp l = 0) (hp : badP p = true) :
    Calls Try.prog 34 #[.slice A l.length c, .agg #[.int .i64 p.x, .int .i64 p.y]] w fun e w' => e = .returned (.tuple #[.int .i64 0, .int .i64 5]) ∧ Below w.heap.size w w' := by
  have HS := hid hs
  have HP := hid hp
  have HR := hid hr
  obtain ⟨h3, hm, _, _, _⟩ := smp_ok hs
  clear hr hs hp
  refine (callsIn_wide (n := 9)).1 (callsIn_of_wp_marks Try.func34 rfl trivial ?_ rfl)
  simp only [Try.ntmps34, List.size_toArray, List.length_cons, List.length_nil, Nat.reduceAdd, Nat.reduceSub, Array.replicate_succ, Array.replicate_zero, List.push_toArray, List.append_toArray, List.nil_append, List.cons_append]
  gi_wp2_with fail
  refine ⟨trivial, ?_⟩
  refine (simple_in _ _ _ _ _ (HR.out.below ((((Below.refl _ _).alloc (Nat.le_refl _) _).alloc (by simp) _).alloc (by simp; omega) _)) (by omega)).mono ?_
  rw [HS.out]
  rintro e w1 ⟨rfl, hb1⟩
  obtain ⟨hc, hf⟩ := bcell hb1
  gi_wp2_with fail
  refine ⟨trivial, ?_⟩
  refine (callsIn_wide.2 (fits1s p _ _ (by simp) _ rfl)).mono ?_
  rw [HP.out]
  rintro e w2 ⟨rfl, hb2⟩
  have hsz1 := hb1.size
  have hsz2 := hb2.size
  simp only [World.size_alloc] at hsz1 hsz2
  have hb12 : Below w1.heap.size w1 w2 := ((Below.refl _ _).alloc (Nat.le_refl _) _).trans (hb2.mono (by simp))
  have hq0 : w2.cell? ⟨w.heap.size + 1, 0, none⟩ = some (.int .i64 0) := (hb12.cell (p := ⟨w.heap.size + 1, 0, none⟩) (by show w.heap.size + 1 < _; omega)).trans (by rw [hc _ _ (by simp)]; simp [go_sem])
  have hq1 : w2.cell? ⟨w.heap.size + 1 + 1, 0, none⟩ = some (.int .i64 0) := (hb12.cell (p := ⟨w.heap.size + 1 + 1, 0, none⟩) (by show w.heap.size + 1 + 1 < _; omega)).trans (by rw [hc _ _ (by simp)]; simp [go_sem])
  have hz0 : w2.frozen? ⟨w.heap.size + 1, 0, none⟩ = false := (hb12.frozen (p := ⟨w.heap.size + 1, 0, none⟩) (by show w.heap.size + 1 < _; omega)).trans (by rw [hf _ _ (by simp)]; simp [go_sem])
  have hz1 : w2.frozen? ⟨w.heap.size + 1 + 1, 0, none⟩ = false := (hb12.frozen (p := ⟨w.heap.size + 1 + 1, 0, none⟩) (by show w.heap.size + 1 + 1 < _; omega)).trans (by rw [hf _ _ (by simp)]; simp [go_sem])
  have HB := hid ((below_then ((((Below.refl w.heap.size w).alloc (Nat.le_refl _) _).alloc (by simp) _).alloc (by simp; omega) _) (by simp; omega) hb1).trans (hb12.mono (by omega)))
  clear hc hf hb1 hb2 hb12
  gi_wp2
  have e4 : (w2.setCell ⟨w.heap.size + 1, 0, none⟩ (.int .i64 0)).cell? ⟨w.heap.size + 1, 0, none⟩ = some (.int .i64 0) := World.cell?_setCell_same' _ _ _ (by rw [hq0]; rfl)
  have e5 : ((w2.setCell ⟨w.heap.size + 1, 0, none⟩ (.int .i64 0)).setCell ⟨w.heap.size + 1 + 1, 0, none⟩ (.int .i64 5)).cell? ⟨w.heap.size + 1, 0, none⟩ = some (.int .i64 0) := (World.cell?_of_block (Below.heap_setCell _ ⟨w.heap.size + 1 + 1, 0, none⟩ _ _ (by show w.heap.size + 1 ≠ w.heap.size + 1 + 1; omega))).trans e4
  have e6 : (w2.setCell ⟨w.heap.size + 1, 0, none⟩ (.int .i64 0)).cell? ⟨w.heap.size + 1 + 1, 0, none⟩ = some (.int .i64 0) := (World.cell?_of_block (Below.heap_setCell _ ⟨w.heap.size + 1, 0, none⟩ _ _ (by show w.heap.size + 1 + 1 ≠ w.heap.size + 1; omega))).trans hq1
  have e7 := World.cell?_setCell_same' (w2.setCell ⟨w.heap.size + 1, 0, none⟩ (.int .i64 0)) ⟨w.heap.size + 1 + 1, 0, none⟩ (.int .i64 5) (by rw [e6]; rfl)
  refine ⟨.tuple #[.int .i64 0, .int .i64 5], ?_, rfl, (HB.out.setCell (p := ⟨w.heap.size + 1, 0, none⟩) (by show w.heap.size ≤ w.heap.size + 1; omega) _).setCell (p := ⟨w.heap.size + 1 + 1, 0, none⟩) (by show w.heap.size ≤ w.heap.size + 1 + 1; omega) _⟩
  simp [results, Try.f34, go_sem, e5, e7]

/-- What geo.Side answers: its number and its error. -/
def sdE (l : List Pt) (p : Pt) : Int := if smp l ≠ 0 then smp l else if badP p then 5 else 0
def sdV (l : List Pt) (p : Pt) : Int := if sdE l p = 0 then sideP l p else 0
theorem side_any (A : Option Addr) (c : Nat) (l : List Pt) (p : Pt) (w : World) (hr : Pts w A l) (hm : l.length ≤ 4611686018427387904) :
    Calls Try.prog 34 #[.slice A l.length c, .agg #[.int .i64 p.x, .int .i64 p.y]] w fun e w' => e = .returned (.tuple #[.int .i64 (sdV l p), .int .i64 (sdE l p)]) ∧ Below w.heap.size w w' := by
  by_cases hs : smp l = 0
  · cases hp : badP p with
    | true =>
      have h1 : sdE l p = 5 := by simp [sdE, hs, hp]
      have h2 : sdV l p = 0 := by simp [sdV, h1]
      rw [h1, h2]
      exact side_out A c l p w hr hs hp
    | false =>
      have h1 : sdE l p = 0 := by simp [sdE, hs, hp]
      have h2 : sdV l p = sideP l p := by simp [sdV, h1]
      rw [h1, h2]
      exact side_in A c l p w hr hs hp
  · have h1 : sdE l p = smp l := by simp [sdE, hs]
    have h2 : sdV l p = 0 := by simp [sdV, h1, hs]
    rw [h1, h2]
    exact side_bad A c l p w hr hm hs
end Go.Proofs.Ytigcbldbolablaa
