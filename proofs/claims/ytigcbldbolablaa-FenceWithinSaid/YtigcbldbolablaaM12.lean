/- The law FenceNearest, walked. -/
import Derived.Test.YtigcbldbolablaaM9
import Derived.Test.YtigcbldbolablaaJ3
namespace Go.Proofs.Ytigcbldbolablaa
open Go.RowKit Go.Proofs.YtigcbldbolablaaW.PrintLast
set_option linter.unusedSimpArgs false

theorem cells2 {w : World} {g : Nat} {a b : Value} {t : TypeId} (h : w.heap[g]? = some (.cells #[a, b] t (0, 0))) : w.cell? ⟨g, 0, none⟩ = some a ∧ w.cell? ⟨g, 1, none⟩ = some b := by
  simp [World.cell?, h]
abbrev ptk (p : Pt) : Obj := .cells #[.int .i64 p.x, .int .i64 p.y] 39 (0, 0)
abbrev pta (p : Pt) : Value := .agg #[.int .i64 p.x, .int .i64 p.y]
theorem far_later {w : World} {n : Later w} (p q : Pt) :
    Calls Try.prog 37 #[.agg #[.int .i64 p.x, .int .i64 p.y], .agg #[.int .i64 q.x, .int .i64 q.y]] (lat w n) fun e w'' => e = .returned (.tuple #[.int .i64 (farD p q), .int .i64 (farE p q)]) ∧ ∃ m : Later w, w'' = lat w m := later_of (far_any p q _)
theorem far_later0 {w : World} {n : Later w} (p q : Pt) (h : farE p q = 0) :
    Calls Try.prog 37 #[.agg #[.int .i64 p.x, .int .i64 p.y], .agg #[.int .i64 q.x, .int .i64 q.y]] (lat w n) fun e w'' => e = .returned (.tuple #[.int .i64 (farD p q), .int .i64 0]) ∧ ∃ m : Later w, w'' = lat w m := later_of (by have := far_any p q (lat w n); rwa [h] at this)
/-- A rally point in memory, wherever its list lies. -/
structure Elt (w : World) (B : Option Addr) (l : List Pt) (i : Nat) (ad : Addr) : Prop where
  e : B = some ad
  x : w.cell? (ad.add (i * 2)) = some (.int .i64 (npt l i).x)
  y : w.cell? ⟨(ad.add (i * 2)).block, (ad.add (i * 2)).off + 1, none⟩ = some (.int .i64 (npt l i).y)

set_option maxRecDepth 100000 in
set_option maxHeartbeats 16000000 in
theorem nearest_walk (P : FP) (f : Fn) (p : Pt) (r v E : Int) (w : World) (hr : FIn w P f)
    (hH : ∀ (Q : FP) (W : World), FRd W Q f → Calls Try.prog 25 #[fpa Q f, pta p, .int .i64 r] W fun e w' => e = .returned (.tuple #[.int .i64 v, .int .i64 E]) ∧ Below W.heap.size W w')
    (h0 : E ≠ 0 → v = 0) (h1 : E = 0 → -1 ≤ v ∧ v < f.rl.length)
    (hL : E = 0 → ∀ i, i < f.rl.length → ∀ (Q : FP) (W : World), FRd W Q f → Calls Try.prog 23 #[fpa Q f, pta p, pta (npt f.rl i), .int .i64 r] W fun e w' => e = .returned (.tuple #[.bool (lnB f.poly p (npt f.rl i) r), .int .i64 0]) ∧ Below W.heap.size W w')
    (h2 : E = 0 → ∀ i, i < f.rl.length → lnB f.poly p (npt f.rl i) r = false → (i : Int) ≠ v)
    (h3 : E = 0 → ∀ i, i < f.rl.length → lnB f.poly p (npt f.rl i) r = true → 0 ≤ v ∧ farE p (npt f.rl i) = 0 ∧ farE p (npt f.rl v.toNat) = 0 ∧ ¬ farD p (npt f.rl i) < farD p (npt f.rl v.toNat) ∧ (farD p (npt f.rl i) = farD p (npt f.rl v.toNat) → ¬ (i : Int) < v)) :
    Calls Try.prog 12 #[fpa P f, pta p, .int .i64 r] w fun e w' => e = .returned (.bool true) ∧ Below w.heap.size w w' := by
  obtain ⟨W, hW⟩ : ∃ W, W = (w.alloc (fpk P f)).alloc (ptk p) := ⟨_, rfl⟩
  have a0 := hid (show W.heap[w.heap.size]? = some (fpk P f) by rw [hW]; exact carry_a _ (heap_alloc_new w _))
  have b0 := hid (show W.heap[w.heap.size + 1]? = some (ptk p) by rw [hW]; have := heap_alloc_new (w.alloc (fpk P f)) (ptk p); simpa using this)
  have B0 := hid (show Below w.heap.size w W by rw [hW]; go_grown)
  have HR := hid hr
  have HH := hid hH
  have H0 := hid h0
  have H1 := hid h1
  have H2 := hid h2
  have H3 := hid h3
  have HL := hid hL
  have hrl := hr.rll
  clear hr hH h0 h1 h2 h3 hL
  obtain ⟨A, c, B, d⟩ := P
  try dsimp only at hW a0 ⊢
  go_enter Try.func12, Try.ntmps12
  go_wp2_with fail
  rw [← hW]
  clear hW
  have hs := hid (show (W.drew.heap[w.heap.size]? = some (fpk ⟨A, c, B, d⟩ f) ∧ W.drew.heap[w.heap.size + 1]? = some (ptk p)) from ⟨a0.out, b0.out⟩)
  refine start_ (n := 10) (S := (fun w' => w'.heap[w.heap.size]? = some (fpk ⟨A, c, B, d⟩ f) ∧ w'.heap[w.heap.size + 1]? = some (ptk p))) (ds := []) #[false, false, false, false, false, false, false, false, false, false] (by kernel_rfl) rfl rfl hs.out (fun hHeld => ?_)
  refine take_ (i := 0) (N := some 17) (v := ?_) (a' := ?_) #[true, false, false, false, false, false, false, false, false, false] rfl rfl (by kernel_rfl) (fun _ _ _ h => h) (Or.inl ⟨by rfl, ?_⟩) hHeld ?_ ?_
  rotate_left
  · intro w' hS'
    obtain ⟨s0, s1, s2, s3⟩ := cells4 hS'.1; obtain ⟨q0, q1⟩ := cells2 hS'.2
    go_simp
    with_reducible rfl
  rotate_left
  · simp only [Act.put, List.setIfInBounds_toArray, List.set_cons_zero, List.set_cons_succ]
    rfl
  refine take_ (i := 2) (N := some 19) (v := ?_) (a' := ?_) #[true, false, true, false, false, false, false, false, false, false] rfl rfl (by kernel_rfl) (fun _ _ _ h => h) (Or.inl ⟨by rfl, ?_⟩) hHeld ?_ ?_
  rotate_left
  · intro w' hS'
    obtain ⟨s0, s1, s2, s3⟩ := cells4 hS'.1; obtain ⟨q0, q1⟩ := cells2 hS'.2
    go_simp
    with_reducible rfl
  rotate_left
  · simp only [Act.put, List.setIfInBounds_toArray, List.set_cons_zero, List.set_cons_succ]
    rfl
  refine pure_ (i := 3) (N := some 20) (v := ?_) (a' := ?_) #[true, false, true, true, false, false, false, false, false, false] rfl rfl (by kernel_rfl) (fun _ _ _ h => h) (Or.inl ⟨by rfl, ?_⟩) ?_ ?_
  rotate_left
  · intro w'
    go_simp
    with_reducible rfl
  rotate_left
  · simp only [Act.put, List.setIfInBounds_toArray, List.set_cons_zero, List.set_cons_succ]
    rfl
  refine one_ (i := 1) (N := some 18) #[true, true, true, true, false, false, false, false, false, false] rfl rfl (by kernel_rfl) (by simp) (fun K hK => ?_)
  refine goes_ Try.func16 (by kernel_rfl) rfl #[fpa ⟨A, c, B, d⟩ f] (by rfl) rfl rfl (by (try simp only [List.map_toArray, List.map_cons, List.map_nil]); first | done | rfl) ?_
  refine (lent_any ⟨A, c, B, d⟩ f W.drew (HR.out.below B0.out.drew)).mono ?_
  rintro e w1 ⟨Q, rfl, hb, hq⟩
  have B1 := hid (below_then B0.out.drew B0.out.size hb)
  have a1 := hid (carry_b hb (show W.drew.heap[w.heap.size]? = _ from a0.out))
  have b1 := hid (carry_b hb (show W.drew.heap[w.heap.size + 1]? = _ from b0.out))
  have HQ := hid (hq.frd HR.out.rd.pl HR.out.rd.rll)
  refine ⟨_, rfl, hK.out _ _ ⟨a1.out, b1.out⟩ (fun _ => ?_)⟩
  clear hK K hb hq a0 b0 B0
  refine one_ (i := 4) (N := some 21) #[true, true, true, true, true, false, false, false, false, false] rfl rfl (by kernel_rfl) (by simp) (fun K hK => ?_)
  refine goes_ Try.func25 (by kernel_rfl) rfl #[fpa Q f, pta p, .int .i64 r] (by rfl) rfl rfl (by (try simp only [List.map_toArray, List.map_cons, List.map_nil]); first | done | rfl) ?_
  refine (HH.out Q w1 HQ.out).mono ?_
  rintro e w2 ⟨rfl, hb⟩
  have B2 := hid (below_then B1.out B1.out.size hb)
  have a2 := hid (carry_b hb a1.out)
  have b2 := hid (carry_b hb b1.out)
  refine ⟨_, rfl, hK.out _ _ ⟨a2.out, b2.out⟩ (fun _ => ?_)⟩
  clear hK K hb a1 b1 B1 HQ
  refine pure_ (i := 5) (N := some 16) (v := ?_) (a' := ?_) #[true, true, true, true, true, true, false, false, false, false] rfl rfl (by kernel_rfl) (fun _ _ _ h => h) (Or.inl ⟨by rfl, ?_⟩) ?_ ?_
  rotate_left
  · intro w'
    go_simp
    with_reducible rfl
  rotate_left
  · simp only [Act.put, List.setIfInBounds_toArray, List.set_cons_zero, List.set_cons_succ]
    rfl
  refine pure_ (i := 6) (N := some 22) (v := ?_) (a' := ?_) #[true, true, true, true, true, true, true, false, false, false] rfl rfl (by kernel_rfl) (fun _ _ _ h => h) (Or.inl ⟨by rfl, ?_⟩) ?_ ?_
  rotate_left
  · intro w'
    go_simp
    with_reducible rfl
  rotate_left
  · simp only [Act.put, List.setIfInBounds_toArray, List.set_cons_zero, List.set_cons_succ]
    rfl
  refine pure_ (i := 7) (N := some 23) (v := ?_) (a' := ?_) #[true, true, true, true, true, true, true, true, false, false] rfl rfl (by kernel_rfl) (fun _ _ _ h => h) (Or.inl ⟨by rfl, ?_⟩) ?_ ?_
  rotate_left
  · intro w'
    go_simp
    with_reducible rfl
  rotate_left
  · simp only [Act.put, List.setIfInBounds_toArray, List.set_cons_zero, List.set_cons_succ]
    rfl
  refine pure_ (i := 8) (N := some 7) (v := ?_) (a' := ?_) #[true, true, true, true, true, true, true, true, true, false] rfl rfl (by kernel_rfl) (fun _ _ _ h => h) (Or.inl ⟨by rfl, ?_⟩) ?_ ?_
  rotate_left
  · intro w'
    go_simp
    with_reducible rfl
  rotate_left
  · simp only [Act.put, List.setIfInBounds_toArray, List.set_cons_zero, List.set_cons_succ]
    rfl
  refine pure_ (i := 9) (N := some 8) (v := ?_) (a' := ?_) #[true, true, true, true, true, true, true, true, true, true] rfl rfl (by kernel_rfl) (fun _ _ _ h => h) (Or.inl ⟨by rfl, ?_⟩) ?_ ?_
  rotate_left
  · intro w'
    go_simp
    with_reducible rfl
  rotate_left
  · simp only [Act.put, List.setIfInBounds_toArray, List.set_cons_zero, List.set_cons_succ]
    rfl
  refine done_ (by kernel_rfl) ?_
  obtain ⟨s0, s1, s2, s3⟩ := cells4 a2.out
  by_cases hE : E = 0
  · obtain ⟨v1, v2⟩ := H1.out hE
    replace H2 := hid (H2.out hE)
    replace H3 := hid (H3.out hE)
    replace HL := hid (HL.out hE)
    subst hE
    go_wp2_with fail
    clear s0 s1 s2 s3
    go_loopw [9, 10, 11, 12, 13, 14, 15] (fun i _ _ _ _ _ _ wr => ∃ k : Nat, k ≤ f.rl.length ∧ i = .int .i64 k ∧ Hid (wr.heap[w.heap.size]? = some (fpk ⟨A, c, B, d⟩ f)) ∧ Hid (wr.heap[w.heap.size + 1]? = some (ptk p)) ∧ Hid (Below w.heap.size w wr)) (fun i _ _ _ _ _ _ _ => f.rl.length - (intOf i).toNat)
    case atStart => exact ⟨0, Nat.zero_le _, rfl, a2, b2, B2⟩
    case round =>
      obtain ⟨k, hk, rfl, a, b, hB⟩ := hrel
      clear a2 b2 B2
      obtain ⟨s0, s1, s2, s3⟩ := cells4 a.out
      obtain ⟨q0, q1⟩ := cells2 b.out
      by_cases hlt : k < f.rl.length
      · have hpr := (HR.out.below hB.out).rd.rl
        obtain ⟨ad, hba, had⟩ := hpr.some_ (by omega)
        dsimp only at hba
        subst hba
        obtain ⟨c0, c1⟩ := hpr.nat k hlt
        have hk0 : (0 : Int) ≤ (k : Int) := by omega
        have hk1 : (k : Int) < (f.rl.length : Int) := by omega
        clear hpr
        go_wp2_with fail
        have hs9 := hid (show (wr.drew.heap[w.heap.size]? = some (fpk ⟨A, c, some ad, d⟩ f) ∧ wr.drew.heap[w.heap.size + 1]? = some (ptk p) ∧ wr.drew.cell? (ad.add (k * 2)) = some (.int .i64 (npt f.rl k).x) ∧ wr.drew.cell? ⟨(ad.add (k * 2)).block, (ad.add (k * 2)).off + 1, none⟩ = some (.int .i64 (npt f.rl k).y)) from ⟨a.out, b.out, c0, c1⟩)
        refine start_ (n := 15) (S := (fun w' => w'.heap[w.heap.size]? = some (fpk ⟨A, c, some ad, d⟩ f) ∧ w'.heap[w.heap.size + 1]? = some (ptk p) ∧ w'.cell? (ad.add (k * 2)) = some (.int .i64 (npt f.rl k).x) ∧ w'.cell? ⟨(ad.add (k * 2)).block, (ad.add (k * 2)).off + 1, none⟩ = some (.int .i64 (npt f.rl k).y))) (ds := []) #[false, false, false, false, false, false, false, false, false, false, false, false, false, false, false] (by kernel_rfl) rfl rfl hs9.out (fun hHeld => ?_)
        refine take_ (i := 0) (N := some 48) (v := ?_) (a' := ?_) #[true, false, false, false, false, false, false, false, false, false, false, false, false, false, false] rfl rfl (by kernel_rfl) (fun _ _ _ h => h) (Or.inl ⟨by rfl, ?_⟩) hHeld ?_ ?_
        rotate_left
        · intro w' hS'
          obtain ⟨S1, S2, S3, S4⟩ := hS'; obtain ⟨r0, r1, r2, r3⟩ := cells4 S1; obtain ⟨t0, t1⟩ := cells2 S2
          go_simp
          with_reducible rfl
        rotate_left
        · simp only [Act.put, List.setIfInBounds_toArray, List.set_cons_zero, List.set_cons_succ]
          rfl
        refine take_ (i := 2) (N := some 50) (v := ?_) (a' := ?_) #[true, false, true, false, false, false, false, false, false, false, false, false, false, false, false] rfl rfl (by kernel_rfl) (fun _ _ _ h => h) (Or.inl ⟨by rfl, ?_⟩) hHeld ?_ ?_
        rotate_left
        · intro w' hS'
          obtain ⟨S1, S2, S3, S4⟩ := hS'; obtain ⟨r0, r1, r2, r3⟩ := cells4 S1; obtain ⟨t0, t1⟩ := cells2 S2
          go_simp
          with_reducible rfl
        rotate_left
        · simp only [Act.put, List.setIfInBounds_toArray, List.set_cons_zero, List.set_cons_succ]
          rfl
        refine pure_ (i := 3) (N := some 51) (v := ?_) (a' := ?_) #[true, false, true, true, false, false, false, false, false, false, false, false, false, false, false] rfl rfl (by kernel_rfl) (fun _ _ _ h => h) (Or.inl ⟨by rfl, ?_⟩) ?_ ?_
        rotate_left
        · intro w'
          go_simp
          with_reducible rfl
        rotate_left
        · simp only [Act.put, List.setIfInBounds_toArray, List.set_cons_zero, List.set_cons_succ]
          rfl
        refine take_ (i := 4) (N := some 52) (v := ?_) (a' := ?_) #[true, false, true, true, true, false, false, false, false, false, false, false, false, false, false] rfl rfl (by kernel_rfl) (fun _ _ _ h => h) (Or.inl ⟨by rfl, ?_⟩) hHeld ?_ ?_
        rotate_left
        · intro w' hS'
          obtain ⟨S1, S2, S3, S4⟩ := hS'; obtain ⟨r0, r1, r2, r3⟩ := cells4 S1; obtain ⟨t0, t1⟩ := cells2 S2
          go_simp
          with_reducible rfl
        rotate_left
        · simp only [Act.put, List.setIfInBounds_toArray, List.set_cons_zero, List.set_cons_succ]
          rfl
        refine pure_ (i := 5) (N := some 53) (v := ?_) (a' := ?_) #[true, false, true, true, true, true, false, false, false, false, false, false, false, false, false] rfl rfl (by kernel_rfl) (fun _ _ _ h => h) (Or.inl ⟨by rfl, ?_⟩) ?_ ?_
        rotate_left
        · intro w'
          go_simp
          with_reducible rfl
        rotate_left
        · simp only [Act.put, List.setIfInBounds_toArray, List.set_cons_zero, List.set_cons_succ]
          rfl
        refine pure_ (i := 6) (N := some 54) (v := ?_) (a' := ?_) #[true, false, true, true, true, true, true, false, false, false, false, false, false, false, false] rfl rfl (by kernel_rfl) (fun _ _ _ h => h) (Or.inl ⟨by rfl, ?_⟩) ?_ ?_
        rotate_left
        · intro w'
          go_simp
          with_reducible rfl
        rotate_left
        · simp only [Act.put, List.setIfInBounds_toArray, List.set_cons_zero, List.set_cons_succ]
          rfl
        refine take_ (i := 7) (N := some 55) (v := ?_) (a' := ?_) #[true, false, true, true, true, true, true, true, false, false, false, false, false, false, false] rfl rfl (by kernel_rfl) (fun _ _ _ h => h) (Or.inl ⟨by rfl, ?_⟩) hHeld ?_ ?_
        rotate_left
        · intro w' hS'
          obtain ⟨S1, S2, S3, S4⟩ := hS'; obtain ⟨r0, r1, r2, r3⟩ := cells4 S1; obtain ⟨t0, t1⟩ := cells2 S2
          go_simp
          with_reducible rfl
        rotate_left
        · simp only [Act.put, List.setIfInBounds_toArray, List.set_cons_zero, List.set_cons_succ]
          rfl
        refine pure_ (i := 8) (N := some 56) (v := ?_) (a' := ?_) #[true, false, true, true, true, true, true, true, true, false, false, false, false, false, false] rfl rfl (by kernel_rfl) (fun _ _ _ h => h) (Or.inl ⟨by rfl, ?_⟩) ?_ ?_
        rotate_left
        · intro w'
          go_simp
          with_reducible rfl
        rotate_left
        · simp only [Act.put, List.setIfInBounds_toArray, List.set_cons_zero, List.set_cons_succ]
          rfl
        refine one_ (i := 1) (N := some 49) #[true, true, true, true, true, true, true, true, true, false, false, false, false, false, false] rfl rfl (by kernel_rfl) (by simp) (fun K hK => ?_)
        refine goes_ Try.func16 (by kernel_rfl) rfl #[fpa ⟨A, c, some ad, d⟩ f] (by rfl) rfl rfl (by (try simp only [List.map_toArray, List.map_cons, List.map_nil]); first | done | rfl) ?_
        refine (lent_any ⟨A, c, some ad, d⟩ f wr.drew (HR.out.below hB.out.drew)).mono ?_
        rintro e w3 ⟨Q3, rfl, hb, hq⟩
        have B3 := hid (below_then hB.out.drew hB.out.size hb)
        have hs3 := hid (⟨carry_b hb hs9.out.1, carry_b hb hs9.out.2.1, later_cell hb hs9.out.2.2.1, later_cell hb hs9.out.2.2.2⟩ : w3.heap[w.heap.size]? = some (fpk ⟨A, c, some ad, d⟩ f) ∧ w3.heap[w.heap.size + 1]? = some (ptk p) ∧ w3.cell? (ad.add (k * 2)) = some (.int .i64 (npt f.rl k).x) ∧ w3.cell? ⟨(ad.add (k * 2)).block, (ad.add (k * 2)).off + 1, none⟩ = some (.int .i64 (npt f.rl k).y))
        have HQ3 := hid (hq.frd HR.out.rd.pl HR.out.rd.rll)
        refine ⟨_, rfl, hK.out _ _ hs3.out (fun _ => ?_)⟩
        clear hK K hb hq
        refine one_ (i := 9) (N := some 57) #[true, true, true, true, true, true, true, true, true, true, false, false, false, false, false] rfl rfl (by kernel_rfl) (by simp) (fun K hK => ?_)
        refine goes_ Try.func23 (by kernel_rfl) rfl #[fpa Q3 f, pta p, pta (npt f.rl k), .int .i64 r] (by rfl) rfl rfl (by (try simp only [List.map_toArray, List.map_cons, List.map_nil]); first | done | rfl) ?_
        refine (HL.out k hlt Q3 w3 HQ3.out).mono ?_
        rintro e w4 ⟨rfl, hb⟩
        have B4 := hid (below_then B3.out B3.out.size hb)
        have hs4 := hid (⟨carry_b hb hs3.out.1, carry_b hb hs3.out.2.1, later_cell hb hs3.out.2.2.1, later_cell hb hs3.out.2.2.2⟩ : w4.heap[w.heap.size]? = some (fpk ⟨A, c, some ad, d⟩ f) ∧ w4.heap[w.heap.size + 1]? = some (ptk p) ∧ w4.cell? (ad.add (k * 2)) = some (.int .i64 (npt f.rl k).x) ∧ w4.cell? ⟨(ad.add (k * 2)).block, (ad.add (k * 2)).off + 1, none⟩ = some (.int .i64 (npt f.rl k).y))
        refine ⟨_, rfl, hK.out _ _ hs4.out (fun _ => ?_)⟩
        clear hK K hb B3 hs3 HQ3
        refine pure_ (i := 10) (N := some 47) (v := ?_) (a' := ?_) #[true, true, true, true, true, true, true, true, true, true, true, false, false, false, false] rfl rfl (by kernel_rfl) (fun _ _ _ h => h) (Or.inl ⟨by rfl, ?_⟩) ?_ ?_
        rotate_left
        · intro w'
          go_simp
          with_reducible rfl
        rotate_left
        · simp only [Act.put, List.setIfInBounds_toArray, List.set_cons_zero, List.set_cons_succ]
          rfl
        refine pure_ (i := 11) (N := some 58) (v := ?_) (a' := ?_) #[true, true, true, true, true, true, true, true, true, true, true, true, false, false, false] rfl rfl (by kernel_rfl) (fun _ _ _ h => h) (Or.inl ⟨by rfl, ?_⟩) ?_ ?_
        rotate_left
        · intro w'
          go_simp
          with_reducible rfl
        rotate_left
        · simp only [Act.put, List.setIfInBounds_toArray, List.set_cons_zero, List.set_cons_succ]
          rfl
        refine pure_ (i := 12) (N := some 59) (v := ?_) (a' := ?_) #[true, true, true, true, true, true, true, true, true, true, true, true, true, false, false] rfl rfl (by kernel_rfl) (fun _ _ _ h => h) (Or.inl ⟨by rfl, ?_⟩) ?_ ?_
        rotate_left
        · intro w'
          go_simp
          with_reducible rfl
        rotate_left
        · simp only [Act.put, List.setIfInBounds_toArray, List.set_cons_zero, List.set_cons_succ]
          rfl
        refine pure_ (i := 13) (N := some 10) (v := ?_) (a' := ?_) #[true, true, true, true, true, true, true, true, true, true, true, true, true, true, false] rfl rfl (by kernel_rfl) (fun _ _ _ h => h) (Or.inl ⟨by rfl, ?_⟩) ?_ ?_
        rotate_left
        · intro w'
          go_simp
          with_reducible rfl
        rotate_left
        · simp only [Act.put, List.setIfInBounds_toArray, List.set_cons_zero, List.set_cons_succ]
          rfl
        refine pure_ (i := 14) (N := some 11) (v := ?_) (a' := ?_) #[true, true, true, true, true, true, true, true, true, true, true, true, true, true, true] rfl rfl (by kernel_rfl) (fun _ _ _ h => h) (Or.inl ⟨by rfl, ?_⟩) ?_ ?_
        rotate_left
        · intro w'
          go_simp
          with_reducible rfl
        rotate_left
        · simp only [Act.put, List.setIfInBounds_toArray, List.set_cons_zero, List.set_cons_succ]
          rfl
        refine done_ (by kernel_rfl) ?_
        clear hs9 a b hB s0 s1 s2 s3 q0 q1 c0 c1
        have a4 := hid hs4.out.1
        have b4 := hid hs4.out.2.1
        cases hli : lnB f.poly p (npt f.rl k) r with
        | false =>
          have hne := H2.out k hlt hli
          have hneb : ((k : Int) == v) = false := beq_eq_false_iff_ne.2 hne
          replace hli := hid hli
          replace hne := hid hne
          by_cases hvn : v < 0
          · go_wp2
            go_roundw
            case rel => exact ⟨k + 1, by omega, by go_num, a4, b4, B4⟩
            case measure => simp [intOf]; omega
          · have hvn' : 0 ≤ v := by omega
            go_wp2
            go_roundw
            case rel => exact ⟨k + 1, by omega, by go_num, a4, b4, B4⟩
            case measure => simp [intOf]; omega
        | true =>
          obtain ⟨x1, x2, x3, x4, x5⟩ := H3.out k hlt hli
          have hml : v.toNat < f.rl.length := by omega
          obtain ⟨d0, d1⟩ := (HR.out.below B4.out).rd.rl.nat v.toNat hml
          have u0 := lat_fact hs4.out.2.2.1
          have u1 := lat_fact hs4.out.2.2.2
          have g0 := lat_fact d0
          have g1 := lat_fact d1
          obtain ⟨y0, y1, y2, y3⟩ := cells4 a4.out
          obtain ⟨z0', z1'⟩ := cells2 b4.out
          have Y0 := lat_fact y3
          have Z0 := lat_fact z0'
          have Z1 := lat_fact z1'
          have hm0 : (0 : Int) ≤ v := by omega
          have hm1 : v < (f.rl.length : Int) := by omega
          replace hli := hid hli
          replace x2 := hid x2
          replace x3 := hid x3
          replace x4 := hid x4
          replace x5 := hid x5
          clear d0 d1 y0 y1 y2 y3 z0' z1'
          have X4 : decide (farD p (npt f.rl k) < farD p (npt f.rl v.toNat)) = false := decide_eq_false (Int.not_lt.2 x4.out)
          have heqs : ((farD p (npt f.rl k) == farD p (npt f.rl v.toNat)) = false) ∨ ((farD p (npt f.rl k) == farD p (npt f.rl v.toNat)) = true ∧ decide ((k : Int) < v) = false) := by
            by_cases g : farD p (npt f.rl k) = farD p (npt f.rl v.toNat)
            · exact .inr ⟨by simp [g], decide_eq_false (by have := x5.out g; omega)⟩
            · exact .inl (by simp [g])
          replace heqs := hid heqs
          replace X4 := hid X4
          by_cases hkm : (k : Int) = v
          · have hkmb : ((k : Int) == v) = true := by simp [hkm]
            replace hkm := hid hkm
            go_wp2_with fail
            refine wp_region_later_lit (by kernel_rfl) (by kernel_rfl) ?_
            repeat (go_big_quiet_step (exact far_later0 _ _ x2.out))
            refine wpQuiet_nil ?_
            rintro _ ⟨nq, rfl⟩
            have B5 := hid (below_then B4.out B4.out.size (lat_below w4 nq))
            have a5 := hid (carry_b (lat_below w4 nq) a4.out)
            have b5 := hid (carry_b (lat_below w4 nq) b4.out)
            replace u0 := u0 nq
            replace u1 := u1 nq
            replace g0 := g0 nq
            replace g1 := g1 nq
            replace Y0 := Y0 nq
            replace Z0 := Z0 nq
            replace Z1 := Z1 nq
            generalize lat w4 nq = w5 at *
            replace u0 := lat_fact u0
            replace u1 := lat_fact u1
            replace g0 := lat_fact g0
            replace g1 := lat_fact g1
            replace Y0 := lat_fact Y0
            replace Z0 := lat_fact Z0
            replace Z1 := lat_fact Z1
            go_wp2_with fail
            refine wp_region_later_lit (by kernel_rfl) (by kernel_rfl) ?_
            repeat (go_big_quiet_step (exact far_later0 _ _ x3.out))
            refine wpQuiet_nil ?_
            rintro _ ⟨nq6, rfl⟩
            have B6 := hid (below_then B5.out B5.out.size (lat_below w5 nq6))
            have a6 := hid (carry_b (lat_below w5 nq6) a5.out)
            have b6 := hid (carry_b (lat_below w5 nq6) b5.out)
            clear u0 u1 g0 g1 Y0 Z0 Z1
            generalize lat w5 nq6 = w6 at *
            replace X4 := X4.out
            rcases heqs.out with X5 | ⟨X5, X6⟩
            · go_wp2
              go_roundw
              case rel => exact ⟨k + 1, by omega, by go_num, a6, b6, B6⟩
              case measure => simp [intOf]; omega
            · go_wp2
              go_roundw
              case rel => exact ⟨k + 1, by omega, by go_num, a6, b6, B6⟩
              case measure => simp [intOf]; omega
          · have hkmb : ((k : Int) == v) = false := beq_eq_false_iff_ne.2 hkm
            replace hkm := hid hkm
            go_wp2_with fail
            refine wp_region_later_lit (by kernel_rfl) (by kernel_rfl) ?_
            repeat (go_big_quiet_step (exact far_later0 _ _ x2.out))
            refine wpQuiet_nil ?_
            rintro _ ⟨nq, rfl⟩
            have B5 := hid (below_then B4.out B4.out.size (lat_below w4 nq))
            have a5 := hid (carry_b (lat_below w4 nq) a4.out)
            have b5 := hid (carry_b (lat_below w4 nq) b4.out)
            replace u0 := u0 nq
            replace u1 := u1 nq
            replace g0 := g0 nq
            replace g1 := g1 nq
            replace Y0 := Y0 nq
            replace Z0 := Z0 nq
            replace Z1 := Z1 nq
            generalize lat w4 nq = w5 at *
            replace u0 := lat_fact u0
            replace u1 := lat_fact u1
            replace g0 := lat_fact g0
            replace g1 := lat_fact g1
            replace Y0 := lat_fact Y0
            replace Z0 := lat_fact Z0
            replace Z1 := lat_fact Z1
            go_wp2_with fail
            refine wp_region_later_lit (by kernel_rfl) (by kernel_rfl) ?_
            repeat (go_big_quiet_step (exact far_later0 _ _ x3.out))
            refine wpQuiet_nil ?_
            rintro _ ⟨nq6, rfl⟩
            have B6 := hid (below_then B5.out B5.out.size (lat_below w5 nq6))
            have a6 := hid (carry_b (lat_below w5 nq6) a5.out)
            have b6 := hid (carry_b (lat_below w5 nq6) b5.out)
            clear u0 u1 g0 g1 Y0 Z0 Z1
            generalize lat w5 nq6 = w6 at *
            replace X4 := X4.out
            rcases heqs.out with X5 | ⟨X5, X6⟩
            · go_wp2
              go_roundw
              case rel => exact ⟨k + 1, by omega, by go_num, a6, b6, B6⟩
              case measure => simp [intOf]; omega
            · go_wp2
              go_roundw
              case rel => exact ⟨k + 1, by omega, by go_num, a6, b6, B6⟩
              case measure => simp [intOf]; omega
      · go_wp2_with fail
        refine (awake_any _).mono ?_
        rintro e w3 ⟨rfl, hb⟩
        have B3 := hid (below_then hB.out hB.out.size hb)
        go_wp2
        go_ret
        exact ⟨rfl, B3.out⟩
  · have hv := H0.out hE
    subst hv
    have hEb : (E != 0) = true := by simp [hE]
    replace hE := hid hE
    go_wp2_with fail
    refine (awake_any _).mono ?_
    rintro e w3 ⟨rfl, hb⟩
    have B3 := hid (below_then B2.out B2.out.size hb)
    go_wp2
    go_ret
    exact ⟨rfl, B3.out⟩
end Go.Proofs.Ytigcbldbolablaa
