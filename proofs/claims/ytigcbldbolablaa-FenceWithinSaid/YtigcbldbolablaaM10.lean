/- The law FenceWithin, walked. -/
import Derived.Test.YtigcbldbolablaaM12
namespace Go.Proofs.Ytigcbldbolablaa
open Go.RowKit Go.Proofs.YtigcbldbolablaaW.PrintLast
set_option linter.unusedSimpArgs false

theorem btw_later {w : World} {n : Later w} (x : Int) (s : Sp) {r : Bool} (h : btw x s = r) :
    Calls Try.prog 33 #[.int .i64 x, .agg #[.int .i64 s.lo, .int .i64 s.hi]] (lat w n) fun e w'' => e = .returned (.bool r) ∧ ∃ m : Later w, w'' = lat w m := later_of (by have := between_any x s (lat w n); rwa [h] at this)

set_option maxRecDepth 100000 in
set_option maxHeartbeats 16000000 in
theorem fin_walk (P : FP) (f : Fn) (b c : Bx) (v u : Bool) (E G : Int) (w : World) (hr : FIn w P f)
    (hH : ∀ (Q : FP) (W : World), FRd W Q f → Calls Try.prog 21 #[fpa Q f, bxa b] W fun e w' => e = .returned (.tuple #[.bool v, .int .i64 E]) ∧ Below W.heap.size W w')
    (hL : ∀ (Q : FP) (W : World), FRd W Q f → Calls Try.prog 21 #[fpa Q f, bxa c] W fun e w' => e = .returned (.tuple #[.bool u, .int .i64 G]) ∧ Below W.heap.size W w')
    (h0 : E ≠ 0 → v = false) (h1 : G ≠ 0 → u = false)
    (h2 : E = 0 → v = true → ∀ i, i < f.poly.length → (btw (npt f.poly i).x b.x && btw (npt f.poly i).y b.y) = false)
    (h3 : E = 0 → G = 0 → v = true → btw c.x.lo b.x = true → btw c.x.hi b.x = true → btw c.y.lo b.y = true → btw c.y.hi b.y = true → btw c.z.lo b.z = true → btw c.z.hi b.z = true → u = true) :
    Calls Try.prog 10 #[fpa P f, bxa b, bxa c] w fun e w' => e = .returned (.bool true) ∧ Below w.heap.size w w' := by
  obtain ⟨W, hW⟩ : ∃ W, W = ((w.alloc (fpk P f)).alloc (bxk b)).alloc (bxk c) := ⟨_, rfl⟩
  have a0 := hid (show W.heap[w.heap.size]? = some (fpk P f) by rw [hW]; exact carry_a _ (carry_a _ (heap_alloc_new w _)))
  have b0 := hid (show W.heap[w.heap.size + 1]? = some (bxk b) by rw [hW]; exact carry_a _ (by have := heap_alloc_new (w.alloc (fpk P f)) (bxk b); simpa using this))
  have c0 := hid (show W.heap[w.heap.size + 1 + 1]? = some (bxk c) by rw [hW]; have := heap_alloc_new ((w.alloc (fpk P f)).alloc (bxk b)) (bxk c); simpa using this)
  have B0 := hid (show Below w.heap.size w W by rw [hW]; go_grown)
  have HR := hid hr
  have HH := hid hH
  have HL := hid hL
  have H0 := hid h0
  have H1 := hid h1
  have H2 := hid h2
  have H3 := hid h3
  have hpl := hr.rd.pl
  clear hr hH hL h0 h1 h2 h3
  obtain ⟨A, cc, B, d⟩ := P
  try dsimp only at hW a0 ⊢
  go_enter Try.func10, Try.ntmps10
  go_wp2_with fail
  rw [← hW]
  clear hW
  have hs0 := hid (show (W.drew.heap[w.heap.size]? = some (fpk ⟨A, cc, B, d⟩ f) ∧ W.drew.heap[w.heap.size + 1]? = some (bxk b) ∧ W.drew.heap[w.heap.size + 1 + 1]? = some (bxk c)) from ⟨a0.out, b0.out, c0.out⟩)
  refine start_ (n := 9) (S := (fun w' => w'.heap[w.heap.size]? = some (fpk ⟨A, cc, B, d⟩ f) ∧ w'.heap[w.heap.size + 1]? = some (bxk b) ∧ w'.heap[w.heap.size + 1 + 1]? = some (bxk c))) (ds := []) #[false, false, false, false, false, false, false, false, false] (by kernel_rfl) rfl rfl hs0.out (fun hHeld => ?_)
  refine take_ (i := 0) (N := some 14) (v := ?_) (a' := ?_) #[true, false, false, false, false, false, false, false, false] rfl rfl (by kernel_rfl) (fun _ _ _ h => h) (Or.inl ⟨by rfl, ?_⟩) hHeld ?_ ?_
  rotate_left
  · intro w' hS'
    obtain ⟨s0, s1, s2, s3⟩ := cells4 hS'.1; obtain ⟨q0, q1, q2, q3, q4, q5⟩ := cells6 hS'.2.1; obtain ⟨p0, p1, p2, p3, p4, p5⟩ := cells6 hS'.2.2
    go_simp
    with_reducible rfl
  rotate_left
  · simp only [Act.put, List.setIfInBounds_toArray, List.set_cons_zero, List.set_cons_succ]
    rfl
  refine take_ (i := 2) (N := some 16) (v := ?_) (a' := ?_) #[true, false, true, false, false, false, false, false, false] rfl rfl (by kernel_rfl) (fun _ _ _ h => h) (Or.inl ⟨by rfl, ?_⟩) hHeld ?_ ?_
  rotate_left
  · intro w' hS'
    obtain ⟨s0, s1, s2, s3⟩ := cells4 hS'.1; obtain ⟨q0, q1, q2, q3, q4, q5⟩ := cells6 hS'.2.1; obtain ⟨p0, p1, p2, p3, p4, p5⟩ := cells6 hS'.2.2
    go_simp
    with_reducible rfl
  rotate_left
  · simp only [Act.put, List.setIfInBounds_toArray, List.set_cons_zero, List.set_cons_succ]
    rfl
  refine one_ (i := 1) (N := some 15) #[true, true, true, false, false, false, false, false, false] rfl rfl (by kernel_rfl) (by simp) (fun K hK => ?_)
  refine goes_ Try.func16 (by kernel_rfl) rfl #[fpa ⟨A, cc, B, d⟩ f] (by rfl) rfl rfl (by (try simp only [List.map_toArray, List.map_cons, List.map_nil]); first | done | rfl) ?_
  refine (lent_any ⟨A, cc, B, d⟩ f W.drew (HR.out.below B0.out.drew)).mono ?_
  rintro e w1 ⟨Q0, rfl, hb, hq⟩
  have B1 := hid (below_then B0.out.drew B0.out.size hb)
  have a1 := hid (carry_b hb (show W.drew.heap[w.heap.size]? = _ from a0.out))
  have b1 := hid (carry_b hb (show W.drew.heap[w.heap.size + 1]? = _ from b0.out))
  have c1 := hid (carry_b hb (show W.drew.heap[w.heap.size + 1 + 1]? = _ from c0.out))
  have HQ0 := hid (hq.frd HR.out.rd.pl HR.out.rd.rll)
  refine ⟨_, rfl, hK.out _ _ ⟨a1.out, b1.out, c1.out⟩ (fun _ => ?_)⟩
  clear hK K hb hq a0 b0 c0 B0
  refine one_ (i := 3) (N := some 17) #[true, true, true, true, false, false, false, false, false] rfl rfl (by kernel_rfl) (by simp) (fun K hK => ?_)
  refine goes_ Try.func21 (by kernel_rfl) rfl #[fpa Q0 f, bxa b] (by rfl) rfl rfl (by (try simp only [List.map_toArray, List.map_cons, List.map_nil]); first | done | rfl) ?_
  refine (HH.out Q0 w1 HQ0.out).mono ?_
  rintro e w2 ⟨rfl, hb⟩
  have B2 := hid (below_then B1.out B1.out.size hb)
  have a2 := hid (carry_b hb a1.out)
  have b2 := hid (carry_b hb b1.out)
  have c2 := hid (carry_b hb c1.out)
  refine ⟨_, rfl, hK.out _ _ ⟨a2.out, b2.out, c2.out⟩ (fun _ => ?_)⟩
  clear hK K hb a1 b1 c1 B1 HQ0
  refine pure_ (i := 4) (N := some 13) (v := ?_) (a' := ?_) #[true, true, true, true, true, false, false, false, false] rfl rfl (by kernel_rfl) (fun _ _ _ h => h) (Or.inl ⟨by rfl, ?_⟩) ?_ ?_
  rotate_left
  · intro w'
    go_simp
    with_reducible rfl
  rotate_left
  · simp only [Act.put, List.setIfInBounds_toArray, List.set_cons_zero, List.set_cons_succ]
    rfl
  refine pure_ (i := 5) (N := some 18) (v := ?_) (a' := ?_) #[true, true, true, true, true, true, false, false, false] rfl rfl (by kernel_rfl) (fun _ _ _ h => h) (Or.inl ⟨by rfl, ?_⟩) ?_ ?_
  rotate_left
  · intro w'
    go_simp
    with_reducible rfl
  rotate_left
  · simp only [Act.put, List.setIfInBounds_toArray, List.set_cons_zero, List.set_cons_succ]
    rfl
  refine pure_ (i := 6) (N := some 19) (v := ?_) (a' := ?_) #[true, true, true, true, true, true, true, false, false] rfl rfl (by kernel_rfl) (fun _ _ _ h => h) (Or.inl ⟨by rfl, ?_⟩) ?_ ?_
  rotate_left
  · intro w'
    go_simp
    with_reducible rfl
  rotate_left
  · simp only [Act.put, List.setIfInBounds_toArray, List.set_cons_zero, List.set_cons_succ]
    rfl
  refine pure_ (i := 7) (N := some 7) (v := ?_) (a' := ?_) #[true, true, true, true, true, true, true, true, false] rfl rfl (by kernel_rfl) (fun _ _ _ h => h) (Or.inl ⟨by rfl, ?_⟩) ?_ ?_
  rotate_left
  · intro w'
    go_simp
    with_reducible rfl
  rotate_left
  · simp only [Act.put, List.setIfInBounds_toArray, List.set_cons_zero, List.set_cons_succ]
    rfl
  refine pure_ (i := 8) (N := some 8) (v := ?_) (a' := ?_) #[true, true, true, true, true, true, true, true, true] rfl rfl (by kernel_rfl) (fun _ _ _ h => h) (Or.inl ⟨by rfl, ?_⟩) ?_ ?_
  rotate_left
  · intro w'
    go_simp
    with_reducible rfl
  rotate_left
  · simp only [Act.put, List.setIfInBounds_toArray, List.set_cons_zero, List.set_cons_succ]
    rfl
  refine done_ (by kernel_rfl) ?_
  go_wp2_with fail
  have hs2 := hid (show (w2.drew.heap[w.heap.size]? = some (fpk ⟨A, cc, B, d⟩ f) ∧ w2.drew.heap[w.heap.size + 1]? = some (bxk b) ∧ w2.drew.heap[w.heap.size + 1 + 1]? = some (bxk c)) from ⟨a2.out, b2.out, c2.out⟩)
  refine start_ (n := 9) (S := (fun w' => w'.heap[w.heap.size]? = some (fpk ⟨A, cc, B, d⟩ f) ∧ w'.heap[w.heap.size + 1]? = some (bxk b) ∧ w'.heap[w.heap.size + 1 + 1]? = some (bxk c))) (ds := []) #[false, false, false, false, false, false, false, false, false] (by kernel_rfl) rfl rfl hs2.out (fun hHeld => ?_)
  refine take_ (i := 0) (N := some 21) (v := ?_) (a' := ?_) #[true, false, false, false, false, false, false, false, false] rfl rfl (by kernel_rfl) (fun _ _ _ h => h) (Or.inl ⟨by rfl, ?_⟩) hHeld ?_ ?_
  rotate_left
  · intro w' hS'
    obtain ⟨s0, s1, s2, s3⟩ := cells4 hS'.1; obtain ⟨q0, q1, q2, q3, q4, q5⟩ := cells6 hS'.2.1; obtain ⟨p0, p1, p2, p3, p4, p5⟩ := cells6 hS'.2.2
    go_simp
    with_reducible rfl
  rotate_left
  · simp only [Act.put, List.setIfInBounds_toArray, List.set_cons_zero, List.set_cons_succ]
    rfl
  refine take_ (i := 2) (N := some 23) (v := ?_) (a' := ?_) #[true, false, true, false, false, false, false, false, false] rfl rfl (by kernel_rfl) (fun _ _ _ h => h) (Or.inl ⟨by rfl, ?_⟩) hHeld ?_ ?_
  rotate_left
  · intro w' hS'
    obtain ⟨s0, s1, s2, s3⟩ := cells4 hS'.1; obtain ⟨q0, q1, q2, q3, q4, q5⟩ := cells6 hS'.2.1; obtain ⟨p0, p1, p2, p3, p4, p5⟩ := cells6 hS'.2.2
    go_simp
    with_reducible rfl
  rotate_left
  · simp only [Act.put, List.setIfInBounds_toArray, List.set_cons_zero, List.set_cons_succ]
    rfl
  refine one_ (i := 1) (N := some 22) #[true, true, true, false, false, false, false, false, false] rfl rfl (by kernel_rfl) (by simp) (fun K hK => ?_)
  refine goes_ Try.func16 (by kernel_rfl) rfl #[fpa ⟨A, cc, B, d⟩ f] (by rfl) rfl rfl (by (try simp only [List.map_toArray, List.map_cons, List.map_nil]); first | done | rfl) ?_
  refine (lent_any ⟨A, cc, B, d⟩ f w2.drew (HR.out.below B2.out.drew)).mono ?_
  rintro e w3 ⟨Q2, rfl, hb, hq⟩
  have B3 := hid (below_then B2.out.drew B2.out.size hb)
  have a3 := hid (carry_b hb (show w2.drew.heap[w.heap.size]? = _ from a2.out))
  have b3 := hid (carry_b hb (show w2.drew.heap[w.heap.size + 1]? = _ from b2.out))
  have c3 := hid (carry_b hb (show w2.drew.heap[w.heap.size + 1 + 1]? = _ from c2.out))
  have HQ2 := hid (hq.frd HR.out.rd.pl HR.out.rd.rll)
  refine ⟨_, rfl, hK.out _ _ ⟨a3.out, b3.out, c3.out⟩ (fun _ => ?_)⟩
  clear hK K hb hq a2 b2 c2 B2
  refine one_ (i := 3) (N := some 24) #[true, true, true, true, false, false, false, false, false] rfl rfl (by kernel_rfl) (by simp) (fun K hK => ?_)
  refine goes_ Try.func21 (by kernel_rfl) rfl #[fpa Q2 f, bxa c] (by rfl) rfl rfl (by (try simp only [List.map_toArray, List.map_cons, List.map_nil]); first | done | rfl) ?_
  refine (HL.out Q2 w3 HQ2.out).mono ?_
  rintro e w4 ⟨rfl, hb⟩
  have B4 := hid (below_then B3.out B3.out.size hb)
  have a4 := hid (carry_b hb a3.out)
  have b4 := hid (carry_b hb b3.out)
  have c4 := hid (carry_b hb c3.out)
  refine ⟨_, rfl, hK.out _ _ ⟨a4.out, b4.out, c4.out⟩ (fun _ => ?_)⟩
  clear hK K hb a3 b3 c3 B3 HQ2
  refine pure_ (i := 4) (N := some 20) (v := ?_) (a' := ?_) #[true, true, true, true, true, false, false, false, false] rfl rfl (by kernel_rfl) (fun _ _ _ h => h) (Or.inl ⟨by rfl, ?_⟩) ?_ ?_
  rotate_left
  · intro w'
    go_simp
    with_reducible rfl
  rotate_left
  · simp only [Act.put, List.setIfInBounds_toArray, List.set_cons_zero, List.set_cons_succ]
    rfl
  refine pure_ (i := 5) (N := some 25) (v := ?_) (a' := ?_) #[true, true, true, true, true, true, false, false, false] rfl rfl (by kernel_rfl) (fun _ _ _ h => h) (Or.inl ⟨by rfl, ?_⟩) ?_ ?_
  rotate_left
  · intro w'
    go_simp
    with_reducible rfl
  rotate_left
  · simp only [Act.put, List.setIfInBounds_toArray, List.set_cons_zero, List.set_cons_succ]
    rfl
  refine pure_ (i := 6) (N := some 26) (v := ?_) (a' := ?_) #[true, true, true, true, true, true, true, false, false] rfl rfl (by kernel_rfl) (fun _ _ _ h => h) (Or.inl ⟨by rfl, ?_⟩) ?_ ?_
  rotate_left
  · intro w'
    go_simp
    with_reducible rfl
  rotate_left
  · simp only [Act.put, List.setIfInBounds_toArray, List.set_cons_zero, List.set_cons_succ]
    rfl
  refine pure_ (i := 7) (N := some 9) (v := ?_) (a' := ?_) #[true, true, true, true, true, true, true, true, false] rfl rfl (by kernel_rfl) (fun _ _ _ h => h) (Or.inl ⟨by rfl, ?_⟩) ?_ ?_
  rotate_left
  · intro w'
    go_simp
    with_reducible rfl
  rotate_left
  · simp only [Act.put, List.setIfInBounds_toArray, List.set_cons_zero, List.set_cons_succ]
    rfl
  refine pure_ (i := 8) (N := some 10) (v := ?_) (a' := ?_) #[true, true, true, true, true, true, true, true, true] rfl rfl (by kernel_rfl) (fun _ _ _ h => h) (Or.inl ⟨by rfl, ?_⟩) ?_ ?_
  rotate_left
  · intro w'
    go_simp
    with_reducible rfl
  rotate_left
  · simp only [Act.put, List.setIfInBounds_toArray, List.set_cons_zero, List.set_cons_succ]
    rfl
  refine done_ (by kernel_rfl) ?_
  by_cases hE : E = 0
  · by_cases hG : G = 0
    · subst hE
      subst hG
      cases v with
      | false =>
        go_wp2_with fail
        refine (awake_any _).mono ?_
        rintro e w5 ⟨rfl, hb⟩
        have B5 := hid (below_then B4.out B4.out.size hb)
        go_wp2
        go_ret
        exact ⟨rfl, B5.out⟩
      | true =>
        replace H2 := hid (H2.out rfl rfl)
        replace H3 := hid (H3.out rfl rfl rfl)
        clear H0 H1 HH HL
        go_wp2_with fail
        go_loopw [11] (fun i wr => ∃ k : Nat, k ≤ f.poly.length ∧ i = .int .i64 k ∧ Hid (wr.heap[w.heap.size]? = some (fpk ⟨A, cc, B, d⟩ f)) ∧ Hid (wr.heap[w.heap.size + 1]? = some (bxk b)) ∧ Hid (wr.heap[w.heap.size + 1 + 1]? = some (bxk c)) ∧ Hid (Below w.heap.size w wr)) (fun i _ => f.poly.length - (intOf i).toNat)
        case atStart => exact ⟨0, Nat.zero_le _, rfl, a4, b4, c4, B4⟩
        clear a4 b4 c4 B4
        case round =>
          obtain ⟨k, hk, rfl, a5, b5, c5, B5⟩ := hrel
          obtain ⟨s0, s1, s2, s3⟩ := cells4 a5.out
          obtain ⟨q0, q1, q2, q3, q4, q5⟩ := cells6 b5.out
          obtain ⟨p0, p1, p2, p3, p4, p5⟩ := cells6 c5.out
          by_cases hlt : k < f.poly.length
          · have hpr := (HR.out.below B5.out).rd.poly
            obtain ⟨ad, hba, had⟩ := hpr.some_ (by omega)
            dsimp only at hba
            subst hba
            obtain ⟨z0, z1⟩ := hpr.nat k hlt
            have hk0 : (0 : Int) ≤ (k : Int) := by omega
            have hk1 : (k : Int) < (f.poly.length : Int) := by omega
            clear hpr
            have hno := H2.out k hlt
            have Z0 := lat_fact z0
            have Z1 := lat_fact z1
            have S0 := lat_fact s0
            have T0 := lat_fact q0
            have T1 := lat_fact q1
            have T2 := lat_fact q2
            have T3 := lat_fact q3
            cases hbx : btw (npt f.poly k).x b.x with
            | false =>
              replace hno := hid hno
              replace hbx := hid hbx
              go_wp2_with fail
              refine wp_region_later_lit (by kernel_rfl) (by kernel_rfl) ?_
              repeat (go_big_quiet_step (first | exact btw_later _ _ hbx.out | exact btw_later _ _ hno.out))
              refine wpQuiet_nil ?_
              rintro _ ⟨nq, rfl⟩
              have hb := lat_below wr nq
              have B6 := hid (below_then B5.out B5.out.size hb)
              have a6 := hid (carry_b hb a5.out)
              have b6 := hid (carry_b hb b5.out)
              have c6 := hid (carry_b hb c5.out)
              clear hb Z0 Z1 S0 T0 T1 T2 T3
              clear s0 s1 s2 s3 q0 q1 q2 q3 q4 q5 p0 p1 p2 p3 p4 p5
              generalize lat wr nq = w6 at *
              go_wp2
              go_roundw
              case rel => exact ⟨k + 1, by omega, by go_num, a6, b6, c6, B6⟩
              case measure => simp [intOf]; omega
            | true =>
              rw [hbx, Bool.true_and] at hno
              replace hno := hid hno
              replace hbx := hid hbx
              go_wp2_with fail
              refine wp_region_later_lit (by kernel_rfl) (by kernel_rfl) ?_
              repeat (go_big_quiet_step (first | exact btw_later _ _ hbx.out | exact btw_later _ _ hno.out))
              refine wpQuiet_nil ?_
              rintro _ ⟨nq, rfl⟩
              have hb := lat_below wr nq
              have B6 := hid (below_then B5.out B5.out.size hb)
              have a6 := hid (carry_b hb a5.out)
              have b6 := hid (carry_b hb b5.out)
              have c6 := hid (carry_b hb c5.out)
              clear hb Z0 Z1 S0 T0 T1 T2 T3
              clear s0 s1 s2 s3 q0 q1 q2 q3 q4 q5 p0 p1 p2 p3 p4 p5
              generalize lat wr nq = w6 at *
              go_wp2
              go_roundw
              case rel => exact ⟨k + 1, by omega, by go_num, a6, b6, c6, B6⟩
              case measure => simp [intOf]; omega
          · clear H2
            cases hv0 : btw c.x.lo b.x with
            | false =>
              go_wp2_with fail
              refine (between_any c.x.lo b.x _).mono ?_
              rw [hv0]
              replace hv0 := hid hv0
              rintro e w6 ⟨rfl, hb⟩
              have B6 := hid (below_then B5.out B5.out.size hb)
              have a6 := hid (carry_b hb a5.out)
              have b6 := hid (carry_b hb b5.out)
              have c6 := hid (carry_b hb c5.out)
              clear hb s0 s1 s2 s3 q0 q1 q2 q3 q4 q5 p0 p1 p2 p3 p4 p5
              obtain ⟨s0, s1, s2, s3⟩ := cells4 a6.out
              obtain ⟨q0, q1, q2, q3, q4, q5⟩ := cells6 b6.out
              obtain ⟨p0, p1, p2, p3, p4, p5⟩ := cells6 c6.out
              go_wp2_with fail
              refine (awake_any _).mono ?_
              rintro e w7 ⟨rfl, hb⟩
              have B7 := hid (below_then B6.out B6.out.size hb)
              go_wp2
              go_ret
              exact ⟨rfl, B7.out⟩
            | true =>
              go_wp2_with fail
              refine (between_any c.x.lo b.x _).mono ?_
              rw [hv0]
              replace hv0 := hid hv0
              rintro e w6 ⟨rfl, hb⟩
              have B6 := hid (below_then B5.out B5.out.size hb)
              have a6 := hid (carry_b hb a5.out)
              have b6 := hid (carry_b hb b5.out)
              have c6 := hid (carry_b hb c5.out)
              clear hb s0 s1 s2 s3 q0 q1 q2 q3 q4 q5 p0 p1 p2 p3 p4 p5
              obtain ⟨s0, s1, s2, s3⟩ := cells4 a6.out
              obtain ⟨q0, q1, q2, q3, q4, q5⟩ := cells6 b6.out
              obtain ⟨p0, p1, p2, p3, p4, p5⟩ := cells6 c6.out
              cases hv1 : btw c.x.hi b.x with
              | false =>
                go_wp2_with fail
                refine (between_any c.x.hi b.x _).mono ?_
                rw [hv1]
                replace hv1 := hid hv1
                rintro e w7 ⟨rfl, hb⟩
                have B7 := hid (below_then B6.out B6.out.size hb)
                have a7 := hid (carry_b hb a6.out)
                have b7 := hid (carry_b hb b6.out)
                have c7 := hid (carry_b hb c6.out)
                clear hb s0 s1 s2 s3 q0 q1 q2 q3 q4 q5 p0 p1 p2 p3 p4 p5
                obtain ⟨s0, s1, s2, s3⟩ := cells4 a7.out
                obtain ⟨q0, q1, q2, q3, q4, q5⟩ := cells6 b7.out
                obtain ⟨p0, p1, p2, p3, p4, p5⟩ := cells6 c7.out
                go_wp2_with fail
                refine (awake_any _).mono ?_
                rintro e w8 ⟨rfl, hb⟩
                have B8 := hid (below_then B7.out B7.out.size hb)
                go_wp2
                go_ret
                exact ⟨rfl, B8.out⟩
              | true =>
                go_wp2_with fail
                refine (between_any c.x.hi b.x _).mono ?_
                rw [hv1]
                replace hv1 := hid hv1
                rintro e w7 ⟨rfl, hb⟩
                have B7 := hid (below_then B6.out B6.out.size hb)
                have a7 := hid (carry_b hb a6.out)
                have b7 := hid (carry_b hb b6.out)
                have c7 := hid (carry_b hb c6.out)
                clear hb s0 s1 s2 s3 q0 q1 q2 q3 q4 q5 p0 p1 p2 p3 p4 p5
                obtain ⟨s0, s1, s2, s3⟩ := cells4 a7.out
                obtain ⟨q0, q1, q2, q3, q4, q5⟩ := cells6 b7.out
                obtain ⟨p0, p1, p2, p3, p4, p5⟩ := cells6 c7.out
                cases hv2 : btw c.y.lo b.y with
                | false =>
                  go_wp2_with fail
                  refine (between_any c.y.lo b.y _).mono ?_
                  rw [hv2]
                  replace hv2 := hid hv2
                  rintro e w8 ⟨rfl, hb⟩
                  have B8 := hid (below_then B7.out B7.out.size hb)
                  have a8 := hid (carry_b hb a7.out)
                  have b8 := hid (carry_b hb b7.out)
                  have c8 := hid (carry_b hb c7.out)
                  clear hb s0 s1 s2 s3 q0 q1 q2 q3 q4 q5 p0 p1 p2 p3 p4 p5
                  obtain ⟨s0, s1, s2, s3⟩ := cells4 a8.out
                  obtain ⟨q0, q1, q2, q3, q4, q5⟩ := cells6 b8.out
                  obtain ⟨p0, p1, p2, p3, p4, p5⟩ := cells6 c8.out
                  go_wp2_with fail
                  refine (awake_any _).mono ?_
                  rintro e w9 ⟨rfl, hb⟩
                  have B9 := hid (below_then B8.out B8.out.size hb)
                  go_wp2
                  go_ret
                  exact ⟨rfl, B9.out⟩
                | true =>
                  go_wp2_with fail
                  refine (between_any c.y.lo b.y _).mono ?_
                  rw [hv2]
                  replace hv2 := hid hv2
                  rintro e w8 ⟨rfl, hb⟩
                  have B8 := hid (below_then B7.out B7.out.size hb)
                  have a8 := hid (carry_b hb a7.out)
                  have b8 := hid (carry_b hb b7.out)
                  have c8 := hid (carry_b hb c7.out)
                  clear hb s0 s1 s2 s3 q0 q1 q2 q3 q4 q5 p0 p1 p2 p3 p4 p5
                  obtain ⟨s0, s1, s2, s3⟩ := cells4 a8.out
                  obtain ⟨q0, q1, q2, q3, q4, q5⟩ := cells6 b8.out
                  obtain ⟨p0, p1, p2, p3, p4, p5⟩ := cells6 c8.out
                  cases hv3 : btw c.y.hi b.y with
                  | false =>
                    go_wp2_with fail
                    refine (between_any c.y.hi b.y _).mono ?_
                    rw [hv3]
                    replace hv3 := hid hv3
                    rintro e w9 ⟨rfl, hb⟩
                    have B9 := hid (below_then B8.out B8.out.size hb)
                    have a9 := hid (carry_b hb a8.out)
                    have b9 := hid (carry_b hb b8.out)
                    have c9 := hid (carry_b hb c8.out)
                    clear hb s0 s1 s2 s3 q0 q1 q2 q3 q4 q5 p0 p1 p2 p3 p4 p5
                    obtain ⟨s0, s1, s2, s3⟩ := cells4 a9.out
                    obtain ⟨q0, q1, q2, q3, q4, q5⟩ := cells6 b9.out
                    obtain ⟨p0, p1, p2, p3, p4, p5⟩ := cells6 c9.out
                    go_wp2_with fail
                    refine (awake_any _).mono ?_
                    rintro e w10 ⟨rfl, hb⟩
                    have B10 := hid (below_then B9.out B9.out.size hb)
                    go_wp2
                    go_ret
                    exact ⟨rfl, B10.out⟩
                  | true =>
                    go_wp2_with fail
                    refine (between_any c.y.hi b.y _).mono ?_
                    rw [hv3]
                    replace hv3 := hid hv3
                    rintro e w9 ⟨rfl, hb⟩
                    have B9 := hid (below_then B8.out B8.out.size hb)
                    have a9 := hid (carry_b hb a8.out)
                    have b9 := hid (carry_b hb b8.out)
                    have c9 := hid (carry_b hb c8.out)
                    clear hb s0 s1 s2 s3 q0 q1 q2 q3 q4 q5 p0 p1 p2 p3 p4 p5
                    obtain ⟨s0, s1, s2, s3⟩ := cells4 a9.out
                    obtain ⟨q0, q1, q2, q3, q4, q5⟩ := cells6 b9.out
                    obtain ⟨p0, p1, p2, p3, p4, p5⟩ := cells6 c9.out
                    cases hv4 : btw c.z.lo b.z with
                    | false =>
                      go_wp2_with fail
                      refine (between_any c.z.lo b.z _).mono ?_
                      rw [hv4]
                      replace hv4 := hid hv4
                      rintro e w10 ⟨rfl, hb⟩
                      have B10 := hid (below_then B9.out B9.out.size hb)
                      have a10 := hid (carry_b hb a9.out)
                      have b10 := hid (carry_b hb b9.out)
                      have c10 := hid (carry_b hb c9.out)
                      clear hb s0 s1 s2 s3 q0 q1 q2 q3 q4 q5 p0 p1 p2 p3 p4 p5
                      obtain ⟨s0, s1, s2, s3⟩ := cells4 a10.out
                      obtain ⟨q0, q1, q2, q3, q4, q5⟩ := cells6 b10.out
                      obtain ⟨p0, p1, p2, p3, p4, p5⟩ := cells6 c10.out
                      go_wp2_with fail
                      refine (awake_any _).mono ?_
                      rintro e w11 ⟨rfl, hb⟩
                      have B11 := hid (below_then B10.out B10.out.size hb)
                      go_wp2
                      go_ret
                      exact ⟨rfl, B11.out⟩
                    | true =>
                      go_wp2_with fail
                      refine (between_any c.z.lo b.z _).mono ?_
                      rw [hv4]
                      replace hv4 := hid hv4
                      rintro e w10 ⟨rfl, hb⟩
                      have B10 := hid (below_then B9.out B9.out.size hb)
                      have a10 := hid (carry_b hb a9.out)
                      have b10 := hid (carry_b hb b9.out)
                      have c10 := hid (carry_b hb c9.out)
                      clear hb s0 s1 s2 s3 q0 q1 q2 q3 q4 q5 p0 p1 p2 p3 p4 p5
                      obtain ⟨s0, s1, s2, s3⟩ := cells4 a10.out
                      obtain ⟨q0, q1, q2, q3, q4, q5⟩ := cells6 b10.out
                      obtain ⟨p0, p1, p2, p3, p4, p5⟩ := cells6 c10.out
                      cases hv5 : btw c.z.hi b.z with
                      | false =>
                        go_wp2_with fail
                        refine (between_any c.z.hi b.z _).mono ?_
                        rw [hv5]
                        replace hv5 := hid hv5
                        rintro e w11 ⟨rfl, hb⟩
                        have B11 := hid (below_then B10.out B10.out.size hb)
                        have a11 := hid (carry_b hb a10.out)
                        have b11 := hid (carry_b hb b10.out)
                        have c11 := hid (carry_b hb c10.out)
                        clear hb s0 s1 s2 s3 q0 q1 q2 q3 q4 q5 p0 p1 p2 p3 p4 p5
                        obtain ⟨s0, s1, s2, s3⟩ := cells4 a11.out
                        obtain ⟨q0, q1, q2, q3, q4, q5⟩ := cells6 b11.out
                        obtain ⟨p0, p1, p2, p3, p4, p5⟩ := cells6 c11.out
                        go_wp2_with fail
                        refine (awake_any _).mono ?_
                        rintro e w12 ⟨rfl, hb⟩
                        have B12 := hid (below_then B11.out B11.out.size hb)
                        go_wp2
                        go_ret
                        exact ⟨rfl, B12.out⟩
                      | true =>
                        go_wp2_with fail
                        refine (between_any c.z.hi b.z _).mono ?_
                        rw [hv5]
                        replace hv5 := hid hv5
                        rintro e w11 ⟨rfl, hb⟩
                        have B11 := hid (below_then B10.out B10.out.size hb)
                        have a11 := hid (carry_b hb a10.out)
                        have b11 := hid (carry_b hb b10.out)
                        have c11 := hid (carry_b hb c10.out)
                        clear hb s0 s1 s2 s3 q0 q1 q2 q3 q4 q5 p0 p1 p2 p3 p4 p5
                        obtain ⟨s0, s1, s2, s3⟩ := cells4 a11.out
                        obtain ⟨q0, q1, q2, q3, q4, q5⟩ := cells6 b11.out
                        obtain ⟨p0, p1, p2, p3, p4, p5⟩ := cells6 c11.out
                        have hu : u = true := H3.out hv0.out hv1.out hv2.out hv3.out hv4.out hv5.out
                        subst hu
                        go_wp2_with fail
                        refine (awake_any _).mono ?_
                        rintro e w12 ⟨rfl, hb⟩
                        have B12 := hid (below_then B11.out B11.out.size hb)
                        go_wp2
                        go_ret
                        exact ⟨rfl, B12.out⟩
    · have hu := H1.out hG
      subst hu
      have hEb : (E != 0) = false := by simp [hE]
      have hGb : (G != 0) = true := by simp [hG]
      have hGc : (G == 0) = false := by simp [hG]
      have hEc : (E == 0) = true := by simp [hE]
      replace hE := hid hE
      replace hG := hid hG
      go_wp2_with fail
      refine (awake_any _).mono ?_
      rintro e w5 ⟨rfl, hb⟩
      have B5 := hid (below_then B4.out B4.out.size hb)
      go_wp2
      go_ret
      exact ⟨rfl, B5.out⟩
  · have hv := H0.out hE
    subst hv
    have hEb : (E != 0) = true := by simp [hE]
    have hEc : (E == 0) = false := by simp [hE]
    replace hE := hid hE
    by_cases hG : G = 0
    · have hGc : (G == 0) = true := by simp [hG]
      replace hG := hid hG
      go_wp2_with fail
      refine (awake_any _).mono ?_
      rintro e w5 ⟨rfl, hb⟩
      have B5 := hid (below_then B4.out B4.out.size hb)
      go_wp2
      go_ret
      exact ⟨rfl, B5.out⟩
    · have hu := H1.out hG
      subst hu
      have hGc : (G == 0) = false := by simp [hG]
      replace hG := hid hG
      go_wp2_with fail
      refine (awake_any _).mono ?_
      rintro e w5 ⟨rfl, hb⟩
      have B5 := hid (below_then B4.out B4.out.size hb)
      go_wp2
      go_ret
      exact ⟨rfl, B5.out⟩
end Go.Proofs.Ytigcbldbolablaa
