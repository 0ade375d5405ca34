/- The law FenceRoom, walked. -/
import Derived.Test.YtigcbldbolablaaM12
namespace Go.Proofs.Ytigcbldbolablaa
open Go.RowKit Go.Proofs.YtigcbldbolablaaW.PrintLast
set_option linter.unusedSimpArgs false
theorem max_lit (k k' : IntKind) (x y : Int) (ats : Array TypeId) (ty : TypeId) : Builtin.max_ ats ty #[.int k x, .int k' y] = pure (.int k (max x y)) := by
  simp only [Builtin.max_, List.foldlM_cons, List.foldlM_nil, Builtin.max2, bind_pure]
  congr 2
  split <;> omega
attribute [local go_sem] min_lit max_lit

theorem cells5 {w : World} {g : Nat} {a b c d e : Value} {t : TypeId} (h : w.heap[g]? = some (.cells #[a, b, c, d, e] t (0, 0))) : w.cell? ⟨g, 0, none⟩ = some a ∧ w.cell? ⟨g, 1, none⟩ = some b ∧ w.cell? ⟨g, 2, none⟩ = some c ∧ w.cell? ⟨g, 3, none⟩ = some d ∧ w.cell? ⟨g, 4, none⟩ = some e := by
  simp [World.cell?, h]
abbrev wyk (a b : Pt) (r : Int) : Obj := .cells #[.int .i64 a.x, .int .i64 a.y, .int .i64 b.x, .int .i64 b.y, .int .i64 r] 41 (0, 0)
abbrev wya (a b : Pt) (r : Int) : Value := .agg #[.int .i64 a.x, .int .i64 a.y, .int .i64 b.x, .int .i64 b.y, .int .i64 r]

set_option maxRecDepth 100000 in
set_option maxHeartbeats 16000000 in
theorem room_walk (P : FP) (f : Fn) (a b p : Pt) (r E : Int) (v : Bool) (w : World) (hr : FIn w P f)
    (hH : ∀ (Q : FP) (W : World), FRd W Q f → Calls Try.prog 23 #[fpa Q f, pta a, pta b, .int .i64 r] W fun e w' => e = .returned (.tuple #[.bool v, .int .i64 E]) ∧ Below W.heap.size W w')
    (hL : ∀ (Q : FP) (W : World), FRd W Q f → Calls Try.prog 23 #[fpa Q f, pta b, pta a, .int .i64 r] W fun e w' => e = .returned (.tuple #[.bool v, .int .i64 E]) ∧ Below W.heap.size W w')
    (h0 : E ≠ 0 → v = false)
    (hM : E = 0 → v = true → ∀ (Q : FP) (W : World), FRd W Q f → Calls Try.prog 23 #[fpa Q f, pta a, pta b, .int .i64 (IntKind.i64.wrap (r.tdiv 2))] W fun e w' => e = .returned (.tuple #[.bool true, .int .i64 0]) ∧ Below W.heap.size W w')
    (h1 : E = 0 → v = true → (0 ≤ r ∧ r ≤ 2147483648) ∧ (-2147483648 ≤ min a.x b.x ∧ max a.x b.x ≤ 2147483648) ∧ (-2147483648 ≤ min a.y b.y ∧ max a.y b.y ≤ 2147483648) ∧
      (min a.x b.x - r ≤ p.x → p.x ≤ max a.x b.x + r → min a.y b.y - r ≤ p.y → p.y ≤ max a.y b.y + r → sdE f.poly p = 0 ∧ sdV f.poly p = 1)) :
    Calls Try.prog 11 #[fpa P f, wya a b r, pta p] w fun e w' => e = .returned (.bool true) ∧ Below w.heap.size w w' := by
  obtain ⟨W, hW⟩ : ∃ W, W = ((w.alloc (fpk P f)).alloc (wyk a b r)).alloc (ptk p) := ⟨_, rfl⟩
  have a0 := hid (show W.heap[w.heap.size]? = some (fpk P f) by rw [hW]; exact carry_a _ (carry_a _ (heap_alloc_new w _)))
  have b0 := hid (show W.heap[w.heap.size + 1]? = some (wyk a b r) by rw [hW]; exact carry_a _ (by have := heap_alloc_new (w.alloc (fpk P f)) (wyk a b r); simpa using this))
  have c0 := hid (show W.heap[w.heap.size + 1 + 1]? = some (ptk p) by rw [hW]; have := heap_alloc_new ((w.alloc (fpk P f)).alloc (wyk a b r)) (ptk p); simpa using this)
  have B0 := hid (show Below w.heap.size w W by rw [hW]; go_grown)
  have HR := hid hr
  have HH := hid hH
  have HL := hid hL
  have HM := hid hM
  have H0 := hid h0
  have H1 := hid h1
  clear hr hH hL hM h0 h1
  go_enter Try.func11, Try.ntmps11
  go_wp2_with fail
  rw [← hW]
  clear hW
  have hs0 := hid (show (W.drew.heap[w.heap.size]? = some (fpk P f) ∧ W.drew.heap[w.heap.size + 1]? = some (wyk a b r) ∧ W.drew.heap[w.heap.size + 1 + 1]? = some (ptk p)) from ⟨a0.out, b0.out, c0.out⟩)
  refine start_ (n := 14) (S := (fun w' => w'.heap[w.heap.size]? = some (fpk P f) ∧ w'.heap[w.heap.size + 1]? = some (wyk a b r) ∧ w'.heap[w.heap.size + 1 + 1]? = some (ptk p))) (ds := []) #[false, false, false, false, false, false, false, false, false, false, false, false, false, false] (by kernel_rfl) rfl rfl hs0.out (fun hHeld => ?_)
  refine take_ (i := 0) (N := some 18) (v := ?_) (a' := ?_) #[true, false, false, false, false, false, false, false, false, false, false, false, false, false] rfl rfl (by kernel_rfl) (fun _ _ _ h => h) (Or.inl ⟨by rfl, ?_⟩) hHeld ?_ ?_
  rotate_left
  · intro w' hS'
    obtain ⟨s0, s1, s2, s3⟩ := cells4 hS'.1; obtain ⟨q0, q1, q2, q3, q4⟩ := cells5 hS'.2.1; obtain ⟨p0, p1⟩ := cells2 hS'.2.2
    go_simp
    with_reducible rfl
  rotate_left
  · simp only [Act.put, List.setIfInBounds_toArray, List.set_cons_zero, List.set_cons_succ]
    rfl
  refine pure_ (i := 2) (N := some 20) (v := ?_) (a' := ?_) #[true, false, true, false, false, false, false, false, false, false, false, false, false, false] rfl rfl (by kernel_rfl) (fun _ _ _ h => h) (Or.inl ⟨by rfl, ?_⟩) ?_ ?_
  rotate_left
  · intro w'
    go_simp
    with_reducible rfl
  rotate_left
  · simp only [Act.put, List.setIfInBounds_toArray, List.set_cons_zero, List.set_cons_succ]
    rfl
  refine take_ (i := 3) (N := some 21) (v := ?_) (a' := ?_) #[true, false, true, true, false, false, false, false, false, false, false, false, false, false] rfl rfl (by kernel_rfl) (fun _ _ _ h => h) (Or.inl ⟨by rfl, ?_⟩) hHeld ?_ ?_
  rotate_left
  · intro w' hS'
    obtain ⟨s0, s1, s2, s3⟩ := cells4 hS'.1; obtain ⟨q0, q1, q2, q3, q4⟩ := cells5 hS'.2.1; obtain ⟨p0, p1⟩ := cells2 hS'.2.2
    go_simp
    with_reducible rfl
  rotate_left
  · simp only [Act.put, List.setIfInBounds_toArray, List.set_cons_zero, List.set_cons_succ]
    rfl
  refine pure_ (i := 4) (N := some 22) (v := ?_) (a' := ?_) #[true, false, true, true, true, false, false, false, false, false, false, false, false, false] rfl rfl (by kernel_rfl) (fun _ _ _ h => h) (Or.inl ⟨by rfl, ?_⟩) ?_ ?_
  rotate_left
  · intro w'
    go_simp
    with_reducible rfl
  rotate_left
  · simp only [Act.put, List.setIfInBounds_toArray, List.set_cons_zero, List.set_cons_succ]
    rfl
  refine take_ (i := 5) (N := some 23) (v := ?_) (a' := ?_) #[true, false, true, true, true, true, false, false, false, false, false, false, false, false] rfl rfl (by kernel_rfl) (fun _ _ _ h => h) (Or.inl ⟨by rfl, ?_⟩) hHeld ?_ ?_
  rotate_left
  · intro w' hS'
    obtain ⟨s0, s1, s2, s3⟩ := cells4 hS'.1; obtain ⟨q0, q1, q2, q3, q4⟩ := cells5 hS'.2.1; obtain ⟨p0, p1⟩ := cells2 hS'.2.2
    go_simp
    with_reducible rfl
  rotate_left
  · simp only [Act.put, List.setIfInBounds_toArray, List.set_cons_zero, List.set_cons_succ]
    rfl
  refine pure_ (i := 6) (N := some 24) (v := ?_) (a' := ?_) #[true, false, true, true, true, true, true, false, false, false, false, false, false, false] rfl rfl (by kernel_rfl) (fun _ _ _ h => h) (Or.inl ⟨by rfl, ?_⟩) ?_ ?_
  rotate_left
  · intro w'
    go_simp
    with_reducible rfl
  rotate_left
  · simp only [Act.put, List.setIfInBounds_toArray, List.set_cons_zero, List.set_cons_succ]
    rfl
  refine take_ (i := 7) (N := some 25) (v := ?_) (a' := ?_) #[true, false, true, true, true, true, true, true, false, false, false, false, false, false] rfl rfl (by kernel_rfl) (fun _ _ _ h => h) (Or.inl ⟨by rfl, ?_⟩) hHeld ?_ ?_
  rotate_left
  · intro w' hS'
    obtain ⟨s0, s1, s2, s3⟩ := cells4 hS'.1; obtain ⟨q0, q1, q2, q3, q4⟩ := cells5 hS'.2.1; obtain ⟨p0, p1⟩ := cells2 hS'.2.2
    go_simp
    with_reducible rfl
  rotate_left
  · simp only [Act.put, List.setIfInBounds_toArray, List.set_cons_zero, List.set_cons_succ]
    rfl
  refine one_ (i := 1) (N := some 19) #[true, true, true, true, true, true, true, true, false, false, false, false, false, false] rfl rfl (by kernel_rfl) (by simp) (fun K hK => ?_)
  refine goes_ Try.func16 (by kernel_rfl) rfl #[fpa P f] (by rfl) rfl rfl (by (try simp only [List.map_toArray, List.map_cons, List.map_nil]); first | done | rfl) ?_
  refine (lent_any P f W.drew (HR.out.below B0.out.drew)).mono ?_
  rintro e w1 ⟨Q0, rfl, hb, hq⟩
  have B1 := hid (below_then B0.out.drew B0.out.size hb)
  have a1 := hid (carry_b hb (show W.drew.heap[w.heap.size]? = _ from a0.out))
  have b1 := hid (carry_b hb (show W.drew.heap[w.heap.size + 1]? = _ from b0.out))
  have c1 := hid (carry_b hb (show W.drew.heap[w.heap.size + 1 + 1]? = _ from c0.out))
  have HQ0 := hid (hq.frd HR.out.rd.pl HR.out.rd.rll)
  refine ⟨_, rfl, hK.out _ _ ⟨a1.out, b1.out, c1.out⟩ (fun _ => ?_)⟩
  clear hK K hb hq a0 b0 c0 B0
  refine one_ (i := 8) (N := some 26) #[true, true, true, true, true, true, true, true, true, false, false, false, false, false] rfl rfl (by kernel_rfl) (by simp) (fun K hK => ?_)
  refine goes_ Try.func23 (by kernel_rfl) rfl #[fpa Q0 f, pta a, pta b, .int .i64 r] (by rfl) rfl rfl (by (try simp only [List.map_toArray, List.map_cons, List.map_nil]); first | done | rfl) ?_
  refine (HH.out Q0 w1 HQ0.out).mono ?_
  rintro e w2 ⟨rfl, hb⟩
  have B2 := hid (below_then B1.out B1.out.size hb)
  have a2 := hid (carry_b hb a1.out)
  have b2 := hid (carry_b hb b1.out)
  have c2 := hid (carry_b hb c1.out)
  refine ⟨_, rfl, hK.out _ _ ⟨a2.out, b2.out, c2.out⟩ (fun _ => ?_)⟩
  clear hK K hb a1 b1 c1 B1 HQ0
  refine pure_ (i := 9) (N := some 17) (v := ?_) (a' := ?_) #[true, true, true, true, true, true, true, true, true, true, false, false, false, false] rfl rfl (by kernel_rfl) (fun _ _ _ h => h) (Or.inl ⟨by rfl, ?_⟩) ?_ ?_
  rotate_left
  · intro w'
    go_simp
    with_reducible rfl
  rotate_left
  · simp only [Act.put, List.setIfInBounds_toArray, List.set_cons_zero, List.set_cons_succ]
    rfl
  refine pure_ (i := 10) (N := some 27) (v := ?_) (a' := ?_) #[true, true, true, true, true, true, true, true, true, true, true, false, false, false] rfl rfl (by kernel_rfl) (fun _ _ _ h => h) (Or.inl ⟨by rfl, ?_⟩) ?_ ?_
  rotate_left
  · intro w'
    go_simp
    with_reducible rfl
  rotate_left
  · simp only [Act.put, List.setIfInBounds_toArray, List.set_cons_zero, List.set_cons_succ]
    rfl
  refine pure_ (i := 11) (N := some 28) (v := ?_) (a' := ?_) #[true, true, true, true, true, true, true, true, true, true, true, true, false, false] rfl rfl (by kernel_rfl) (fun _ _ _ h => h) (Or.inl ⟨by rfl, ?_⟩) ?_ ?_
  rotate_left
  · intro w'
    go_simp
    with_reducible rfl
  rotate_left
  · simp only [Act.put, List.setIfInBounds_toArray, List.set_cons_zero, List.set_cons_succ]
    rfl
  refine pure_ (i := 12) (N := some 7) (v := ?_) (a' := ?_) #[true, true, true, true, true, true, true, true, true, true, true, true, true, false] rfl rfl (by kernel_rfl) (fun _ _ _ h => h) (Or.inl ⟨by rfl, ?_⟩) ?_ ?_
  rotate_left
  · intro w'
    go_simp
    with_reducible rfl
  rotate_left
  · simp only [Act.put, List.setIfInBounds_toArray, List.set_cons_zero, List.set_cons_succ]
    rfl
  refine pure_ (i := 13) (N := some 8) (v := ?_) (a' := ?_) #[true, true, true, true, true, true, true, true, true, true, true, true, true, true] rfl rfl (by kernel_rfl) (fun _ _ _ h => h) (Or.inl ⟨by rfl, ?_⟩) ?_ ?_
  rotate_left
  · intro w'
    go_simp
    with_reducible rfl
  rotate_left
  · simp only [Act.put, List.setIfInBounds_toArray, List.set_cons_zero, List.set_cons_succ]
    rfl
  refine done_ (by kernel_rfl) ?_
  go_wp2_with fail
  have hs2 := hid (show (w2.drew.heap[w.heap.size]? = some (fpk P f) ∧ w2.drew.heap[w.heap.size + 1]? = some (wyk a b r) ∧ w2.drew.heap[w.heap.size + 1 + 1]? = some (ptk p)) from ⟨a2.out, b2.out, c2.out⟩)
  refine start_ (n := 14) (S := (fun w' => w'.heap[w.heap.size]? = some (fpk P f) ∧ w'.heap[w.heap.size + 1]? = some (wyk a b r) ∧ w'.heap[w.heap.size + 1 + 1]? = some (ptk p))) (ds := []) #[false, false, false, false, false, false, false, false, false, false, false, false, false, false] (by kernel_rfl) rfl rfl hs2.out (fun hHeld => ?_)
  refine take_ (i := 0) (N := some 30) (v := ?_) (a' := ?_) #[true, false, false, false, false, false, false, false, false, false, false, false, false, false] rfl rfl (by kernel_rfl) (fun _ _ _ h => h) (Or.inl ⟨by rfl, ?_⟩) hHeld ?_ ?_
  rotate_left
  · intro w' hS'
    obtain ⟨s0, s1, s2, s3⟩ := cells4 hS'.1; obtain ⟨q0, q1, q2, q3, q4⟩ := cells5 hS'.2.1; obtain ⟨p0, p1⟩ := cells2 hS'.2.2
    go_simp
    with_reducible rfl
  rotate_left
  · simp only [Act.put, List.setIfInBounds_toArray, List.set_cons_zero, List.set_cons_succ]
    rfl
  refine pure_ (i := 2) (N := some 32) (v := ?_) (a' := ?_) #[true, false, true, false, false, false, false, false, false, false, false, false, false, false] rfl rfl (by kernel_rfl) (fun _ _ _ h => h) (Or.inl ⟨by rfl, ?_⟩) ?_ ?_
  rotate_left
  · intro w'
    go_simp
    with_reducible rfl
  rotate_left
  · simp only [Act.put, List.setIfInBounds_toArray, List.set_cons_zero, List.set_cons_succ]
    rfl
  refine take_ (i := 3) (N := some 33) (v := ?_) (a' := ?_) #[true, false, true, true, false, false, false, false, false, false, false, false, false, false] rfl rfl (by kernel_rfl) (fun _ _ _ h => h) (Or.inl ⟨by rfl, ?_⟩) hHeld ?_ ?_
  rotate_left
  · intro w' hS'
    obtain ⟨s0, s1, s2, s3⟩ := cells4 hS'.1; obtain ⟨q0, q1, q2, q3, q4⟩ := cells5 hS'.2.1; obtain ⟨p0, p1⟩ := cells2 hS'.2.2
    go_simp
    with_reducible rfl
  rotate_left
  · simp only [Act.put, List.setIfInBounds_toArray, List.set_cons_zero, List.set_cons_succ]
    rfl
  refine pure_ (i := 4) (N := some 34) (v := ?_) (a' := ?_) #[true, false, true, true, true, false, false, false, false, false, false, false, false, false] rfl rfl (by kernel_rfl) (fun _ _ _ h => h) (Or.inl ⟨by rfl, ?_⟩) ?_ ?_
  rotate_left
  · intro w'
    go_simp
    with_reducible rfl
  rotate_left
  · simp only [Act.put, List.setIfInBounds_toArray, List.set_cons_zero, List.set_cons_succ]
    rfl
  refine take_ (i := 5) (N := some 35) (v := ?_) (a' := ?_) #[true, false, true, true, true, true, false, false, false, false, false, false, false, false] rfl rfl (by kernel_rfl) (fun _ _ _ h => h) (Or.inl ⟨by rfl, ?_⟩) hHeld ?_ ?_
  rotate_left
  · intro w' hS'
    obtain ⟨s0, s1, s2, s3⟩ := cells4 hS'.1; obtain ⟨q0, q1, q2, q3, q4⟩ := cells5 hS'.2.1; obtain ⟨p0, p1⟩ := cells2 hS'.2.2
    go_simp
    with_reducible rfl
  rotate_left
  · simp only [Act.put, List.setIfInBounds_toArray, List.set_cons_zero, List.set_cons_succ]
    rfl
  refine pure_ (i := 6) (N := some 36) (v := ?_) (a' := ?_) #[true, false, true, true, true, true, true, false, false, false, false, false, false, false] rfl rfl (by kernel_rfl) (fun _ _ _ h => h) (Or.inl ⟨by rfl, ?_⟩) ?_ ?_
  rotate_left
  · intro w'
    go_simp
    with_reducible rfl
  rotate_left
  · simp only [Act.put, List.setIfInBounds_toArray, List.set_cons_zero, List.set_cons_succ]
    rfl
  refine take_ (i := 7) (N := some 37) (v := ?_) (a' := ?_) #[true, false, true, true, true, true, true, true, false, false, false, false, false, false] rfl rfl (by kernel_rfl) (fun _ _ _ h => h) (Or.inl ⟨by rfl, ?_⟩) hHeld ?_ ?_
  rotate_left
  · intro w' hS'
    obtain ⟨s0, s1, s2, s3⟩ := cells4 hS'.1; obtain ⟨q0, q1, q2, q3, q4⟩ := cells5 hS'.2.1; obtain ⟨p0, p1⟩ := cells2 hS'.2.2
    go_simp
    with_reducible rfl
  rotate_left
  · simp only [Act.put, List.setIfInBounds_toArray, List.set_cons_zero, List.set_cons_succ]
    rfl
  refine one_ (i := 1) (N := some 31) #[true, true, true, true, true, true, true, true, false, false, false, false, false, false] rfl rfl (by kernel_rfl) (by simp) (fun K hK => ?_)
  refine goes_ Try.func16 (by kernel_rfl) rfl #[fpa P f] (by rfl) rfl rfl (by (try simp only [List.map_toArray, List.map_cons, List.map_nil]); first | done | rfl) ?_
  refine (lent_any P f w2.drew (HR.out.below B2.out.drew)).mono ?_
  rintro e w3 ⟨Q2, rfl, hb, hq⟩
  have B3 := hid (below_then B2.out.drew B2.out.size hb)
  have a3 := hid (carry_b hb (show w2.drew.heap[w.heap.size]? = _ from a2.out))
  have b3 := hid (carry_b hb (show w2.drew.heap[w.heap.size + 1]? = _ from b2.out))
  have c3 := hid (carry_b hb (show w2.drew.heap[w.heap.size + 1 + 1]? = _ from c2.out))
  have HQ2 := hid (hq.frd HR.out.rd.pl HR.out.rd.rll)
  refine ⟨_, rfl, hK.out _ _ ⟨a3.out, b3.out, c3.out⟩ (fun _ => ?_)⟩
  clear hK K hb hq a2 b2 c2 B2
  refine one_ (i := 8) (N := some 38) #[true, true, true, true, true, true, true, true, true, false, false, false, false, false] rfl rfl (by kernel_rfl) (by simp) (fun K hK => ?_)
  refine goes_ Try.func23 (by kernel_rfl) rfl #[fpa Q2 f, pta b, pta a, .int .i64 r] (by rfl) rfl rfl (by (try simp only [List.map_toArray, List.map_cons, List.map_nil]); first | done | rfl) ?_
  refine (HL.out Q2 w3 HQ2.out).mono ?_
  rintro e w4 ⟨rfl, hb⟩
  have B4 := hid (below_then B3.out B3.out.size hb)
  have a4 := hid (carry_b hb a3.out)
  have b4 := hid (carry_b hb b3.out)
  have c4 := hid (carry_b hb c3.out)
  refine ⟨_, rfl, hK.out _ _ ⟨a4.out, b4.out, c4.out⟩ (fun _ => ?_)⟩
  clear hK K hb a3 b3 c3 B3 HQ2
  refine pure_ (i := 9) (N := some 29) (v := ?_) (a' := ?_) #[true, true, true, true, true, true, true, true, true, true, false, false, false, false] rfl rfl (by kernel_rfl) (fun _ _ _ h => h) (Or.inl ⟨by rfl, ?_⟩) ?_ ?_
  rotate_left
  · intro w'
    go_simp
    with_reducible rfl
  rotate_left
  · simp only [Act.put, List.setIfInBounds_toArray, List.set_cons_zero, List.set_cons_succ]
    rfl
  refine pure_ (i := 10) (N := some 39) (v := ?_) (a' := ?_) #[true, true, true, true, true, true, true, true, true, true, true, false, false, false] rfl rfl (by kernel_rfl) (fun _ _ _ h => h) (Or.inl ⟨by rfl, ?_⟩) ?_ ?_
  rotate_left
  · intro w'
    go_simp
    with_reducible rfl
  rotate_left
  · simp only [Act.put, List.setIfInBounds_toArray, List.set_cons_zero, List.set_cons_succ]
    rfl
  refine pure_ (i := 11) (N := some 40) (v := ?_) (a' := ?_) #[true, true, true, true, true, true, true, true, true, true, true, true, false, false] rfl rfl (by kernel_rfl) (fun _ _ _ h => h) (Or.inl ⟨by rfl, ?_⟩) ?_ ?_
  rotate_left
  · intro w'
    go_simp
    with_reducible rfl
  rotate_left
  · simp only [Act.put, List.setIfInBounds_toArray, List.set_cons_zero, List.set_cons_succ]
    rfl
  refine pure_ (i := 12) (N := some 9) (v := ?_) (a' := ?_) #[true, true, true, true, true, true, true, true, true, true, true, true, true, false] rfl rfl (by kernel_rfl) (fun _ _ _ h => h) (Or.inl ⟨by rfl, ?_⟩) ?_ ?_
  rotate_left
  · intro w'
    go_simp
    with_reducible rfl
  rotate_left
  · simp only [Act.put, List.setIfInBounds_toArray, List.set_cons_zero, List.set_cons_succ]
    rfl
  refine pure_ (i := 13) (N := some 10) (v := ?_) (a' := ?_) #[true, true, true, true, true, true, true, true, true, true, true, true, true, true] rfl rfl (by kernel_rfl) (fun _ _ _ h => h) (Or.inl ⟨by rfl, ?_⟩) ?_ ?_
  rotate_left
  · intro w'
    go_simp
    with_reducible rfl
  rotate_left
  · simp only [Act.put, List.setIfInBounds_toArray, List.set_cons_zero, List.set_cons_succ]
    rfl
  refine done_ (by kernel_rfl) ?_
  by_cases hE : E = 0
  · subst hE
    cases v with
    | false =>
      go_wp2_with fail
      refine (awake_any _).mono ?_
      rintro e w5 ⟨rfl, hb⟩
      have B5 := hid (below_then B4.out B4.out.size hb)
      go_wp2
      go_ret
      exact ⟨rfl, B5.out⟩
    | true =>
      obtain ⟨hr1, hx1, hy1, H3⟩ := H1.out rfl rfl
      replace HM := hid (HM.out rfl rfl)
      clear H0 H1 HH HL
      go_wp2_with fail
      have hs4 := hid (show (w4.drew.heap[w.heap.size]? = some (fpk P f) ∧ w4.drew.heap[w.heap.size + 1]? = some (wyk a b r) ∧ w4.drew.heap[w.heap.size + 1 + 1]? = some (ptk p)) from ⟨a4.out, b4.out, c4.out⟩)
      refine start_ (n := 15) (S := (fun w' => w'.heap[w.heap.size]? = some (fpk P f) ∧ w'.heap[w.heap.size + 1]? = some (wyk a b r) ∧ w'.heap[w.heap.size + 1 + 1]? = some (ptk p))) (ds := []) #[false, false, false, false, false, false, false, false, false, false, false, false, false, false, false] (by kernel_rfl) rfl rfl hs4.out (fun hHeld => ?_)
      refine take_ (i := 0) (N := some 57) (v := ?_) (a' := ?_) #[true, false, false, false, false, false, false, false, false, false, false, false, false, false, false] rfl rfl (by kernel_rfl) (fun _ _ _ h => h) (Or.inl ⟨by rfl, ?_⟩) hHeld ?_ ?_
      rotate_left
      · intro w' hS'
        obtain ⟨s0, s1, s2, s3⟩ := cells4 hS'.1; obtain ⟨q0, q1, q2, q3, q4⟩ := cells5 hS'.2.1; obtain ⟨p0, p1⟩ := cells2 hS'.2.2
        go_simp
        with_reducible rfl
      rotate_left
      · simp only [Act.put, List.setIfInBounds_toArray, List.set_cons_zero, List.set_cons_succ]
        rfl
      refine pure_ (i := 2) (N := some 59) (v := ?_) (a' := ?_) #[true, false, true, false, false, false, false, false, false, false, false, false, false, false, false] rfl rfl (by kernel_rfl) (fun _ _ _ h => h) (Or.inl ⟨by rfl, ?_⟩) ?_ ?_
      rotate_left
      · intro w'
        go_simp
        with_reducible rfl
      rotate_left
      · simp only [Act.put, List.setIfInBounds_toArray, List.set_cons_zero, List.set_cons_succ]
        rfl
      refine take_ (i := 3) (N := some 60) (v := ?_) (a' := ?_) #[true, false, true, true, false, false, false, false, false, false, false, false, false, false, false] rfl rfl (by kernel_rfl) (fun _ _ _ h => h) (Or.inl ⟨by rfl, ?_⟩) hHeld ?_ ?_
      rotate_left
      · intro w' hS'
        obtain ⟨s0, s1, s2, s3⟩ := cells4 hS'.1; obtain ⟨q0, q1, q2, q3, q4⟩ := cells5 hS'.2.1; obtain ⟨p0, p1⟩ := cells2 hS'.2.2
        go_simp
        with_reducible rfl
      rotate_left
      · simp only [Act.put, List.setIfInBounds_toArray, List.set_cons_zero, List.set_cons_succ]
        rfl
      refine pure_ (i := 4) (N := some 61) (v := ?_) (a' := ?_) #[true, false, true, true, true, false, false, false, false, false, false, false, false, false, false] rfl rfl (by kernel_rfl) (fun _ _ _ h => h) (Or.inl ⟨by rfl, ?_⟩) ?_ ?_
      rotate_left
      · intro w'
        go_simp
        with_reducible rfl
      rotate_left
      · simp only [Act.put, List.setIfInBounds_toArray, List.set_cons_zero, List.set_cons_succ]
        rfl
      refine take_ (i := 5) (N := some 62) (v := ?_) (a' := ?_) #[true, false, true, true, true, true, false, false, false, false, false, false, false, false, false] rfl rfl (by kernel_rfl) (fun _ _ _ h => h) (Or.inl ⟨by rfl, ?_⟩) hHeld ?_ ?_
      rotate_left
      · intro w' hS'
        obtain ⟨s0, s1, s2, s3⟩ := cells4 hS'.1; obtain ⟨q0, q1, q2, q3, q4⟩ := cells5 hS'.2.1; obtain ⟨p0, p1⟩ := cells2 hS'.2.2
        go_simp
        with_reducible rfl
      rotate_left
      · simp only [Act.put, List.setIfInBounds_toArray, List.set_cons_zero, List.set_cons_succ]
        rfl
      refine pure_ (i := 6) (N := some 63) (v := ?_) (a' := ?_) #[true, false, true, true, true, true, true, false, false, false, false, false, false, false, false] rfl rfl (by kernel_rfl) (fun _ _ _ h => h) (Or.inl ⟨by rfl, ?_⟩) ?_ ?_
      rotate_left
      · intro w'
        go_simp
        with_reducible rfl
      rotate_left
      · simp only [Act.put, List.setIfInBounds_toArray, List.set_cons_zero, List.set_cons_succ]
        rfl
      refine take_ (i := 7) (N := some 64) (v := ?_) (a' := ?_) #[true, false, true, true, true, true, true, true, false, false, false, false, false, false, false] rfl rfl (by kernel_rfl) (fun _ _ _ h => h) (Or.inl ⟨by rfl, ?_⟩) hHeld ?_ ?_
      rotate_left
      · intro w' hS'
        obtain ⟨s0, s1, s2, s3⟩ := cells4 hS'.1; obtain ⟨q0, q1, q2, q3, q4⟩ := cells5 hS'.2.1; obtain ⟨p0, p1⟩ := cells2 hS'.2.2
        go_simp
        with_reducible rfl
      rotate_left
      · simp only [Act.put, List.setIfInBounds_toArray, List.set_cons_zero, List.set_cons_succ]
        rfl
      refine pure_ (i := 8) (N := some 65) (v := ?_) (a' := ?_) #[true, false, true, true, true, true, true, true, true, false, false, false, false, false, false] rfl rfl (by kernel_rfl) (fun _ _ _ h => h) (Or.inl ⟨by rfl, ?_⟩) ?_ ?_
      rotate_left
      · intro w'
        go_simp
        with_reducible rfl
      rotate_left
      · simp only [Act.put, List.setIfInBounds_toArray, List.set_cons_zero, List.set_cons_succ]
        rfl
      refine one_ (i := 1) (N := some 58) #[true, true, true, true, true, true, true, true, true, false, false, false, false, false, false] rfl rfl (by kernel_rfl) (by simp) (fun K hK => ?_)
      refine goes_ Try.func16 (by kernel_rfl) rfl #[fpa P f] (by rfl) rfl rfl (by (try simp only [List.map_toArray, List.map_cons, List.map_nil]); first | done | rfl) ?_
      refine (lent_any P f w4.drew (HR.out.below B4.out.drew)).mono ?_
      rintro e w5 ⟨Q4, rfl, hb, hq⟩
      have B5 := hid (below_then B4.out.drew B4.out.size hb)
      have a5 := hid (carry_b hb (show w4.drew.heap[w.heap.size]? = _ from a4.out))
      have b5 := hid (carry_b hb (show w4.drew.heap[w.heap.size + 1]? = _ from b4.out))
      have c5 := hid (carry_b hb (show w4.drew.heap[w.heap.size + 1 + 1]? = _ from c4.out))
      have HQ4 := hid (hq.frd HR.out.rd.pl HR.out.rd.rll)
      refine ⟨_, rfl, hK.out _ _ ⟨a5.out, b5.out, c5.out⟩ (fun _ => ?_)⟩
      clear hK K hb hq a4 b4 c4 B4
      refine one_ (i := 9) (N := some 66) #[true, true, true, true, true, true, true, true, true, true, false, false, false, false, false] rfl rfl (by kernel_rfl) (by simp) (fun K hK => ?_)
      refine goes_ Try.func23 (by kernel_rfl) rfl #[fpa Q4 f, pta a, pta b, .int .i64 (IntKind.i64.wrap (r.tdiv 2))] (by rfl) rfl rfl (by (try simp only [List.map_toArray, List.map_cons, List.map_nil]); first | done | rfl) ?_
      refine (HM.out Q4 w5 HQ4.out).mono ?_
      rintro e w6 ⟨rfl, hb⟩
      have B6 := hid (below_then B5.out B5.out.size hb)
      have a6 := hid (carry_b hb a5.out)
      have b6 := hid (carry_b hb b5.out)
      have c6 := hid (carry_b hb c5.out)
      refine ⟨_, rfl, hK.out _ _ ⟨a6.out, b6.out, c6.out⟩ (fun _ => ?_)⟩
      clear hK K hb a5 b5 c5 B5 HQ4
      refine pure_ (i := 10) (N := some 56) (v := ?_) (a' := ?_) #[true, true, true, true, true, true, true, true, true, true, true, false, false, false, false] rfl rfl (by kernel_rfl) (fun _ _ _ h => h) (Or.inl ⟨by rfl, ?_⟩) ?_ ?_
      rotate_left
      · intro w'
        go_simp
        with_reducible rfl
      rotate_left
      · simp only [Act.put, List.setIfInBounds_toArray, List.set_cons_zero, List.set_cons_succ]
        rfl
      refine pure_ (i := 11) (N := some 67) (v := ?_) (a' := ?_) #[true, true, true, true, true, true, true, true, true, true, true, true, false, false, false] rfl rfl (by kernel_rfl) (fun _ _ _ h => h) (Or.inl ⟨by rfl, ?_⟩) ?_ ?_
      rotate_left
      · intro w'
        go_simp
        with_reducible rfl
      rotate_left
      · simp only [Act.put, List.setIfInBounds_toArray, List.set_cons_zero, List.set_cons_succ]
        rfl
      refine pure_ (i := 12) (N := some 68) (v := ?_) (a' := ?_) #[true, true, true, true, true, true, true, true, true, true, true, true, true, false, false] rfl rfl (by kernel_rfl) (fun _ _ _ h => h) (Or.inl ⟨by rfl, ?_⟩) ?_ ?_
      rotate_left
      · intro w'
        go_simp
        with_reducible rfl
      rotate_left
      · simp only [Act.put, List.setIfInBounds_toArray, List.set_cons_zero, List.set_cons_succ]
        rfl
      refine pure_ (i := 13) (N := some 11) (v := ?_) (a' := ?_) #[true, true, true, true, true, true, true, true, true, true, true, true, true, true, false] rfl rfl (by kernel_rfl) (fun _ _ _ h => h) (Or.inl ⟨by rfl, ?_⟩) ?_ ?_
      rotate_left
      · intro w'
        go_simp
        with_reducible rfl
      rotate_left
      · simp only [Act.put, List.setIfInBounds_toArray, List.set_cons_zero, List.set_cons_succ]
        rfl
      refine pure_ (i := 14) (N := some 12) (v := ?_) (a' := ?_) #[true, true, true, true, true, true, true, true, true, true, true, true, true, true, true] rfl rfl (by kernel_rfl) (fun _ _ _ h => h) (Or.inl ⟨by rfl, ?_⟩) ?_ ?_
      rotate_left
      · intro w'
        go_simp
        with_reducible rfl
      rotate_left
      · simp only [Act.put, List.setIfInBounds_toArray, List.set_cons_zero, List.set_cons_succ]
        rfl
      refine done_ (by kernel_rfl) ?_
      obtain ⟨s0, s1, s2, s3⟩ := cells4 a6.out
      obtain ⟨q0, q1, q2, q3, q4⟩ := cells5 b6.out
      obtain ⟨p0, p1⟩ := cells2 c6.out
      replace H3 := hid H3
      by_cases g1 : min a.x b.x - r ≤ p.x
      · by_cases g2 : p.x ≤ max a.x b.x + r
        · by_cases g3 : min a.y b.y - r ≤ p.y
          · by_cases g4 : p.y ≤ max a.y b.y + r
            · obtain ⟨e1, e2⟩ := H3.out g1 g2 g3 g4
              replace e1 := hid e1
              replace e2 := hid e2
              go_wp2_with fail
              have hs7 := hid (show (w6.drew.heap[w.heap.size]? = some (fpk P f) ∧ w6.drew.heap[w.heap.size + 1]? = some (wyk a b r) ∧ w6.drew.heap[w.heap.size + 1 + 1]? = some (ptk p)) from ⟨a6.out, b6.out, c6.out⟩)
              clear s0 s1 s2 s3 q0 q1 q2 q3 q4 p0 p1 g1 g2 g3 g4
              refine start_ (n := 10) (S := (fun w' => w'.heap[w.heap.size]? = some (fpk P f) ∧ w'.heap[w.heap.size + 1]? = some (wyk a b r) ∧ w'.heap[w.heap.size + 1 + 1]? = some (ptk p))) (ds := []) #[false, false, false, false, false, false, false, false, false, false] (by kernel_rfl) rfl rfl hs7.out (fun hHeld => ?_)
              refine pure_ (i := 0) (N := some 139) (v := ?_) (a' := ?_) #[true, false, false, false, false, false, false, false, false, false] rfl rfl (by kernel_rfl) (fun _ _ _ h => h) (Or.inl ⟨by rfl, ?_⟩) ?_ ?_
              rotate_left
              · intro w'
                go_simp
                with_reducible rfl
              rotate_left
              · simp only [Act.put, List.setIfInBounds_toArray, List.set_cons_zero, List.set_cons_succ]
                rfl
              refine take_ (i := 1) (N := some 140) (v := ?_) (a' := ?_) #[true, true, false, false, false, false, false, false, false, false] rfl rfl (by kernel_rfl) (fun _ _ _ h => h) (Or.inl ⟨by rfl, ?_⟩) hHeld ?_ ?_
              rotate_left
              · intro w' hS'
                obtain ⟨r0, r1, r2, r3⟩ := cells4 hS'.1; obtain ⟨t0, t1⟩ := cells2 hS'.2.2
                go_simp
                with_reducible rfl
              rotate_left
              · simp only [Act.put, List.setIfInBounds_toArray, List.set_cons_zero, List.set_cons_succ]
                rfl
              refine take_ (i := 3) (N := some 142) (v := ?_) (a' := ?_) #[true, true, false, true, false, false, false, false, false, false] rfl rfl (by kernel_rfl) (fun _ _ _ h => h) (Or.inl ⟨by rfl, ?_⟩) hHeld ?_ ?_
              rotate_left
              · intro w' hS'
                obtain ⟨r0, r1, r2, r3⟩ := cells4 hS'.1; obtain ⟨t0, t1⟩ := cells2 hS'.2.2
                go_simp
                with_reducible rfl
              rotate_left
              · simp only [Act.put, List.setIfInBounds_toArray, List.set_cons_zero, List.set_cons_succ]
                rfl
              refine one_ (i := 2) (N := some 141) #[true, true, true, true, false, false, false, false, false, false] rfl rfl (by kernel_rfl) (by simp) (fun K hK => ?_)
              refine goes_ Try.func35 (by kernel_rfl) rfl #[.slice P.A f.poly.length P.c] (by rfl) rfl rfl (by (try simp only [List.map_toArray, List.map_cons, List.map_nil]); first | done | rfl) ?_
              refine (spare_any P.A P.c f.poly w6.drew ((HR.out.below B6.out.drew).rd.poly) HR.out.pl HR.out.a).mono ?_
              rintro e w7 ⟨g7, k7, rfl, hb, hq⟩
              have B7 := hid (below_then B6.out.drew B6.out.size hb)
              have a7 := hid (carry_b hb (show w6.drew.heap[w.heap.size]? = _ from a6.out))
              have b7 := hid (carry_b hb (show w6.drew.heap[w.heap.size + 1]? = _ from b6.out))
              have c7 := hid (carry_b hb (show w6.drew.heap[w.heap.size + 1 + 1]? = _ from c6.out))
              have HQ := hid (pts_lent hq)
              refine ⟨_, rfl, hK.out _ _ ⟨a7.out, b7.out, c7.out⟩ (fun _ => ?_)⟩
              clear hK K hb hq
              refine one_ (i := 4) (N := some 143) #[true, true, true, true, true, false, false, false, false, false] rfl rfl (by kernel_rfl) (by simp) (fun K hK => ?_)
              refine goes_ Try.func34 (by kernel_rfl) rfl #[.slice (some ⟨g7, 0, none⟩) f.poly.length k7, pta p] (by rfl) rfl rfl (by (try simp only [List.map_toArray, List.map_cons, List.map_nil]); first | done | rfl) ?_
              refine (side_any (some ⟨g7, 0, none⟩) k7 f.poly p w7 HQ.out HR.out.rd.pl).mono ?_
              rw [e1.out, e2.out]
              rintro e w8 ⟨rfl, hb⟩
              have B8 := hid (below_then B7.out B7.out.size hb)
              have a8 := hid (carry_b hb a7.out)
              have b8 := hid (carry_b hb b7.out)
              have c8 := hid (carry_b hb c7.out)
              refine ⟨_, rfl, hK.out _ _ ⟨a8.out, b8.out, c8.out⟩ (fun _ => ?_)⟩
              clear hK K hb
              refine pure_ (i := 5) (N := some 138) (v := ?_) (a' := ?_) #[true, true, true, true, true, true, false, false, false, false] rfl rfl (by kernel_rfl) (fun _ _ _ h => h) (Or.inl ⟨by rfl, ?_⟩) ?_ ?_
              rotate_left
              · intro w'
                go_simp
                with_reducible rfl
              rotate_left
              · simp only [Act.put, List.setIfInBounds_toArray, List.set_cons_zero, List.set_cons_succ]
                rfl
              refine pure_ (i := 6) (N := some 144) (v := ?_) (a' := ?_) #[true, true, true, true, true, true, true, false, false, false] rfl rfl (by kernel_rfl) (fun _ _ _ h => h) (Or.inl ⟨by rfl, ?_⟩) ?_ ?_
              rotate_left
              · intro w'
                go_simp
                with_reducible rfl
              rotate_left
              · simp only [Act.put, List.setIfInBounds_toArray, List.set_cons_zero, List.set_cons_succ]
                rfl
              refine pure_ (i := 7) (N := some 145) (v := ?_) (a' := ?_) #[true, true, true, true, true, true, true, true, false, false] rfl rfl (by kernel_rfl) (fun _ _ _ h => h) (Or.inl ⟨by rfl, ?_⟩) ?_ ?_
              rotate_left
              · intro w'
                go_simp
                with_reducible rfl
              rotate_left
              · simp only [Act.put, List.setIfInBounds_toArray, List.set_cons_zero, List.set_cons_succ]
                rfl
              refine pure_ (i := 8) (N := some 15) (v := ?_) (a' := ?_) #[true, true, true, true, true, true, true, true, true, false] rfl rfl (by kernel_rfl) (fun _ _ _ h => h) (Or.inl ⟨by rfl, ?_⟩) ?_ ?_
              rotate_left
              · intro w'
                go_simp
                with_reducible rfl
              rotate_left
              · simp only [Act.put, List.setIfInBounds_toArray, List.set_cons_zero, List.set_cons_succ]
                rfl
              refine pure_ (i := 9) (N := some 16) (v := ?_) (a' := ?_) #[true, true, true, true, true, true, true, true, true, true] rfl rfl (by kernel_rfl) (fun _ _ _ h => h) (Or.inl ⟨by rfl, ?_⟩) ?_ ?_
              rotate_left
              · intro w'
                go_simp
                with_reducible rfl
              rotate_left
              · simp only [Act.put, List.setIfInBounds_toArray, List.set_cons_zero, List.set_cons_succ]
                rfl
              refine done_ (by kernel_rfl) ?_
              go_wp2_with fail
              refine (awake_any _).mono ?_
              rintro e w9 ⟨rfl, hb⟩
              have B9 := hid (below_then B8.out B8.out.size hb)
              clear hb
              go_wp2
              go_ret
              exact ⟨rfl, B9.out⟩
            · go_wp2_with fail
              all_goals
                refine (awake_any _).mono ?_
                rintro e w7 ⟨rfl, hb⟩
                have B7 := hid (below_then B6.out B6.out.size hb)
                go_wp2
                go_ret
                exact ⟨rfl, B7.out⟩
          · go_wp2_with fail
            all_goals
              refine (awake_any _).mono ?_
              rintro e w7 ⟨rfl, hb⟩
              have B7 := hid (below_then B6.out B6.out.size hb)
              go_wp2
              go_ret
              exact ⟨rfl, B7.out⟩
        · go_wp2_with fail
          all_goals
            refine (awake_any _).mono ?_
            rintro e w7 ⟨rfl, hb⟩
            have B7 := hid (below_then B6.out B6.out.size hb)
            go_wp2
            go_ret
            exact ⟨rfl, B7.out⟩
      · go_wp2_with fail
        all_goals
          refine (awake_any _).mono ?_
          rintro e w7 ⟨rfl, hb⟩
          have B7 := hid (below_then B6.out B6.out.size hb)
          go_wp2
          go_ret
          exact ⟨rfl, B7.out⟩
  · have hv := H0.out hE
    subst hv
    have hEb : (E != 0) = true := by simp [hE]
    replace hE := hid hE
    go_wp2_with fail
    refine (awake_any _).mono ?_
    rintro e w5 ⟨rfl, hb⟩
    have B5 := hid (below_then B4.out B4.out.size hb)
    go_wp2
    go_ret
    exact ⟨rfl, B5.out⟩
end Go.Proofs.Ytigcbldbolablaa
