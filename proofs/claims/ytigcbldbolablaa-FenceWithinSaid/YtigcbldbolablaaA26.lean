/- The chapter's small fence. -/
import Derived.Test.YtigcbldbolablaaA25
namespace Go.Proofs.Ytigcbldbolablaa
open Go.RowKit Go.Proofs.YtigcbldbolablaaW.PrintLast
set_option linter.unusedSimpArgs false

def sm : Fn := ⟨[⟨0, 0⟩, ⟨100, 0⟩, ⟨100, 100⟩, ⟨0, 100⟩], -5, 50, [⟨10, 10⟩, ⟨90, 90⟩, ⟨50, 50⟩]⟩
/-- The small fence, wherever it lies. -/
def SmGot (w : World) (e : Ending) (w' : World) : Prop :=
  ∃ P : FP, e = .returned (.agg #[.slice P.A 4 P.c, .int .i64 (-5), .int .i64 50, .slice P.B 3 P.d]) ∧ Below w.heap.size w w' ∧ FRd w' P sm

theorem pts_heap {W W' : World} {A : Option Addr} {l : List Pt} (h : Pts W A l) (hk : ∀ ad, A = some ad → W'.heap[ad.block]? = W.heap[ad.block]?) (hs : W.heap.size ≤ W'.heap.size) : Pts W' A l := by
  intro k hk'
  obtain ⟨ad, rfl, h1, h2, h3⟩ := h k hk'
  have e := hk ad rfl
  refine ⟨ad, rfl, by omega, ?_, ?_⟩
  · exact (World.cell?_of_block (a := ad.add (k * 2)) (by rw [add_blk]; exact e)).trans h2
  · exact (World.cell?_of_block (a := ⟨(ad.add (k * 2)).block, (ad.add (k * 2)).off + 1, none⟩) (by show W'.heap[(ad.add (k * 2)).block]? = _; rw [add_blk]; exact e)).trans h3
theorem set4_other {W : World} {g b : Nat} (x y z u : Value) (hn : b ≠ g) : ((((W.setCell ⟨g, 0, none⟩ x).setCell ⟨g, 1, none⟩ y).setCell ⟨g, 2, none⟩ z).setCell ⟨g, 3, none⟩ u).heap[b]? = W.heap[b]? := by
  rw [heap_setCell_other _ _ _ _ hn, heap_setCell_other _ _ _ _ hn, heap_setCell_other _ _ _ _ hn, heap_setCell_other _ _ _ _ hn]

set_option maxRecDepth 100000 in
set_option maxHeartbeats 4000000 in
theorem small_any (w : World) : Calls Try.prog 44 #[] w (SmGot w) := by
  go_enter Try.func44, Try.ntmps44
  go_wp2_with fail
  obtain ⟨W, hW⟩ : ∃ W, W = w.alloc (fbk (.slice none 0 0) 0 0 (.slice none 0 0)) := ⟨_, rfl⟩
  have z0 := hid (show W.heap[w.heap.size]? = some (fbk (.slice none 0 0) 0 0 (.slice none 0 0)) by rw [hW]; exact heap_alloc_new w _)
  have B0 := hid (show Below w.heap.size w W by rw [hW]; go_grown)
  rw [← hW]
  clear hW
  refine (at_any _ _ _).mono ?_
  rintro e w1 ⟨rfl, hb1⟩
  have z1 := hid (carry_b hb1 z0.out)
  have B1 := hid (below_then B0.out B0.out.size hb1)
  clear hb1 z0 B0
  go_wp2_with fail
  refine (at_any _ _ _).mono ?_
  rintro e w2 ⟨rfl, hb2⟩
  have z2 := hid (carry_b hb2 z1.out)
  have B2 := hid (below_then B1.out B1.out.size hb2)
  clear hb2 z1 B1
  go_wp2_with fail
  refine (at_any _ _ _).mono ?_
  rintro e w3 ⟨rfl, hb3⟩
  have z3 := hid (carry_b hb3 z2.out)
  have B3 := hid (below_then B2.out B2.out.size hb3)
  clear hb3 z2 B2
  go_wp2_with fail
  refine (at_any _ _ _).mono ?_
  rintro e w4 ⟨rfl, hb4⟩
  have z4 := hid (carry_b hb4 z3.out)
  have B4 := hid (below_then B3.out B3.out.size hb4)
  clear hb4 z3 B3
  go_wp2_with fail
  obtain ⟨W5, hW5⟩ : ∃ W5, W5 = w4.alloc (.cells #[.int .i64 0, .int .i64 0, .int .i64 100, .int .i64 0, .int .i64 100, .int .i64 100, .int .i64 0, .int .i64 100] 39) := ⟨_, rfl⟩
  have z5 := hid (show W5.heap[w.heap.size]? = some (fbk (.slice none 0 0) 0 0 (.slice none 0 0)) by rw [hW5]; exact carry_a _ z4.out)
  have B5 := hid (show Below w.heap.size w W5 by rw [hW5]; exact B4.out.alloc B4.out.size _)
  have P5 := hid (show Pts W5 (some ⟨w4.heap.size, 0, none⟩) sm.poly by
    rw [hW5]
    refine pts_new w4 sm.poly 39 _ (fun k hk => ?_)
    have : k = 0 ∨ k = 1 ∨ k = 2 ∨ k = 3 := by simp [sm] at hk; omega
    rcases this with rfl | rfl | rfl | rfl <;> exact ⟨rfl, rfl⟩)
  have hw4 := hid (heap_lt z4.out)
  rw [← hW5]
  clear hW5 z4 B4
  refine (at_any _ _ _).mono ?_
  rintro e W6 ⟨rfl, hb⟩
  have z6 := hid (carry_b hb z5.out)
  have B6 := hid (below_then B5.out B5.out.size hb)
  have P6 := hid (P5.out.below hb)
  clear hb z5 B5 P5
  go_wp2_with fail
  refine (at_any _ _ _).mono ?_
  rintro e W7 ⟨rfl, hb⟩
  have z7 := hid (carry_b hb z6.out)
  have B7 := hid (below_then B6.out B6.out.size hb)
  have P7 := hid (P6.out.below hb)
  clear hb z6 B6 P6
  go_wp2_with fail
  refine (at_any _ _ _).mono ?_
  rintro e W8 ⟨rfl, hb⟩
  have z8 := hid (carry_b hb z7.out)
  have B8 := hid (below_then B7.out B7.out.size hb)
  have P8 := hid (P7.out.below hb)
  clear hb z7 B7 P7
  obtain ⟨y0, y1, y2, y3, yf⟩ : W8.cell? ⟨w.heap.size, 0, none⟩ = some (.slice none 0 0) ∧ W8.cell? ⟨w.heap.size, 1, none⟩ = some (.int .i64 0) ∧ W8.cell? ⟨w.heap.size, 2, none⟩ = some (.int .i64 0) ∧ W8.cell? ⟨w.heap.size, 3, none⟩ = some (.slice none 0 0) ∧ ∀ j, W8.frozen? ⟨w.heap.size, j, none⟩ = false := by simp [World.cell?, World.frozen?, z8.out]
  have yf0 := yf 0
  have yf1 := yf 1
  have yf2 := yf 2
  have yf3 := yf 3
  have hlt := heap_lt z8.out
  clear yf
  go_wp2_with fail
  have hz := set4 (.slice (some ⟨w4.heap.size, 0, none⟩) 4 4) (.int .i64 (-5)) (.int .i64 50) (.slice (some ⟨W8.heap.size, 0, none⟩) 3 3) z8.out
  have hb := hid (set4_below (.slice (some ⟨w4.heap.size, 0, none⟩) 4 4) (.int .i64 (-5)) (.int .i64 50) (.slice (some ⟨W8.heap.size, 0, none⟩) 3 3) B8.out (Nat.le_refl _))
  have hp := hid (pts_heap P8.out (fun ad e => by cases e; exact set4_other (.slice (some ⟨w4.heap.size, 0, none⟩) 4 4) (.int .i64 (-5)) (.int .i64 50) (.slice (some ⟨W8.heap.size, 0, none⟩) 3 3) (show w4.heap.size ≠ w.heap.size by have := hw4.out; omega)) (by simp))
  have hsz := hid (show ((((W8.setCell ⟨w.heap.size, 0, none⟩ (.slice (some ⟨w4.heap.size, 0, none⟩) 4 4)).setCell ⟨w.heap.size, 1, none⟩ (.int .i64 (-5))).setCell ⟨w.heap.size, 2, none⟩ (.int .i64 50)).setCell ⟨w.heap.size, 3, none⟩ (.slice (some ⟨W8.heap.size, 0, none⟩) 3 3)).heap.size = W8.heap.size by simp)
  clear y0 y1 y2 y3 yf0 yf1 yf2 yf3 z8 P8 B8
  generalize (((W8.setCell ⟨w.heap.size, 0, none⟩ (.slice (some ⟨w4.heap.size, 0, none⟩) 4 4)).setCell ⟨w.heap.size, 1, none⟩ (.int .i64 (-5))).setCell ⟨w.heap.size, 2, none⟩ (.int .i64 50)).setCell ⟨w.heap.size, 3, none⟩ (.slice (some ⟨W8.heap.size, 0, none⟩) 3 3) = V at *
  have QA := hid (show Pts (V.alloc (.cells #[.int .i64 10, .int .i64 10, .int .i64 90, .int .i64 90, .int .i64 50, .int .i64 50] 39)) (some ⟨W8.heap.size, 0, none⟩) sm.rl by
    rw [← hsz.out]
    refine pts_new V sm.rl 39 _ (fun k hk => ?_)
    have : k = 0 ∨ k = 1 ∨ k = 2 := by simp [sm] at hk; omega
    rcases this with rfl | rfl | rfl <;> exact ⟨rfl, rfl⟩)
  have PA := hid (hp.out.below ((Below.refl _ _).alloc (Nat.le_refl _) (.cells #[.int .i64 10, .int .i64 10, .int .i64 90, .int .i64 90, .int .i64 50, .int .i64 50] 39)))
  have BA := hid (hb.out.alloc hb.out.size (.cells #[.int .i64 10, .int .i64 10, .int .i64 90, .int .i64 90, .int .i64 50, .int .i64 50] 39))
  obtain ⟨m0, m1, m2, m3⟩ := cells4 (carry_a (.cells #[.int .i64 10, .int .i64 10, .int .i64 90, .int .i64 90, .int .i64 50, .int .i64 50] 39) hz)
  clear hz hb hp
  refine bodyPost_ret (v := .agg #[.slice (some ⟨w4.heap.size, 0, none⟩) 4 4, .int .i64 (-5), .int .i64 50, .slice (some ⟨W8.heap.size, 0, none⟩) 3 3]) (by simp [results, Try.results44, go_sem, m0, m1, m2, m3]) rfl ?_
  exact ⟨⟨some ⟨w4.heap.size, 0, none⟩, 4, some ⟨W8.heap.size, 0, none⟩, 3⟩, rfl, BA.out, PA.out, QA.out, by simp [sm], by simp [sm]⟩
end Go.Proofs.Ytigcbldbolablaa
