/- The law FenceMeans, walked. -/
import Derived.Test.YtigcbldbolablaaA28
namespace Go.Proofs.Ytigcbldbolablaa
open Go.RowKit Go.Proofs.YtigcbldbolablaaW.PrintLast
set_option linter.unusedSimpArgs false

def btw (n : Int) (s : Sp) : Bool := decide (s.lo ≤ n) && decide (n ≤ s.hi)
theorem between_any (n : Int) (s : Sp) (w : World) : Calls Try.prog 33 #[.int .i64 n, .agg #[.int .i64 s.lo, .int .i64 s.hi]] w fun e w' => e = .returned (.bool (btw n s)) ∧ Below w.heap.size w w' := by
  obtain ⟨lo, hi⟩ := s
  by_cases h : lo ≤ n
  · have hd : decide (lo ≤ n) = true := decide_eq_true h
    go_enter Try.func33, Try.ntmps33
    go_wp2
    go_ret
    exact ⟨by rw [btw, hd]; simp, by go_grown⟩
  · have hd : decide (lo ≤ n) = false := decide_eq_false h
    go_enter Try.func33, Try.ntmps33
    go_wp2
    go_ret
    exact ⟨by rw [btw, hd]; rfl, by go_grown⟩
theorem cells6 {w : World} {g : Nat} {a b c d e f : Value} {t : TypeId} (h : w.heap[g]? = some (.cells #[a, b, c, d, e, f] t (0, 0))) : w.cell? ⟨g, 0, none⟩ = some a ∧ w.cell? ⟨g, 1, none⟩ = some b ∧ w.cell? ⟨g, 2, none⟩ = some c ∧ w.cell? ⟨g, 3, none⟩ = some d ∧ w.cell? ⟨g, 4, none⟩ = some e ∧ w.cell? ⟨g, 5, none⟩ = some f := by
  simp [World.cell?, h]
theorem cells3 {w : World} {g : Nat} {a b c : Value} {t : TypeId} (h : w.heap[g]? = some (.cells #[a, b, c] t (0, 0))) : w.cell? ⟨g, 0, none⟩ = some a ∧ w.cell? ⟨g, 1, none⟩ = some b ∧ w.cell? ⟨g, 2, none⟩ = some c := by
  simp [World.cell?, h]
abbrev bxk (b : Bx) : Obj := .cells #[.int .i64 b.x.lo, .int .i64 b.x.hi, .int .i64 b.y.lo, .int .i64 b.y.hi, .int .i64 b.z.lo, .int .i64 b.z.hi] 34 (0, 0)
/-- A place in the air. -/
structure Pl where
  x : Int
  y : Int
  z : Int
abbrev plk (p : Pl) : Obj := .cells #[.int .i64 p.x, .int .i64 p.y, .int .i64 p.z] 53 (0, 0)
abbrev fpk (P : FP) (f : Fn) : Obj := fbk (.slice P.A f.poly.length P.c) f.fl f.ce (.slice P.B f.rl.length P.d)
abbrev fpa (P : FP) (f : Fn) : Value := .agg #[.slice P.A f.poly.length P.c, .int .i64 f.fl, .int .i64 f.ce, .slice P.B f.rl.length P.d]
abbrev bxa (b : Bx) : Value := .agg #[.int .i64 b.x.lo, .int .i64 b.x.hi, .int .i64 b.y.lo, .int .i64 b.y.hi, .int .i64 b.z.lo, .int .i64 b.z.hi]

set_option maxRecDepth 100000 in
set_option maxHeartbeats 8000000 in
theorem means_walk (P : FP) (f : Fn) (b : Bx) (p : Pl) (v : Bool) (E : Int) (w : World) (hr : FIn w P f)
    (hH : ∀ (Q : FP) (W : World), FRd W Q f → Calls Try.prog 21 #[fpa Q f, bxa b] W fun e w' => e = .returned (.tuple #[.bool v, .int .i64 E]) ∧ Below W.heap.size W w')
    (h1 : E ≠ 0 → v = false) (h2 : E = 0 → v = true → btw p.x b.x = true → btw p.y b.y = true → btw p.z b.z = true → sdE f.poly ⟨p.x, p.y⟩ = 0 ∧ sdV f.poly ⟨p.x, p.y⟩ = 1 ∧ f.fl ≤ p.z ∧ p.z ≤ f.ce) :
    Calls Try.prog 9 #[fpa P f, bxa b, .agg #[.int .i64 p.x, .int .i64 p.y, .int .i64 p.z]] w fun e w' => e = .returned (.bool true) ∧ Below w.heap.size w w' := by
  obtain ⟨W, hW⟩ : ∃ W, W = ((w.alloc (fpk P f)).alloc (bxk b)).alloc (plk p) := ⟨_, rfl⟩
  have a0 := hid (show W.heap[w.heap.size]? = some (fpk P f) by rw [hW]; exact carry_a _ (carry_a _ (heap_alloc_new w _)))
  have b0 := hid (show W.heap[w.heap.size + 1]? = some (bxk b) by rw [hW]; exact carry_a _ (by have := heap_alloc_new (w.alloc (fpk P f)) (bxk b); simpa using this))
  have c0 := hid (show W.heap[w.heap.size + 1 + 1]? = some (plk p) by rw [hW]; have := heap_alloc_new ((w.alloc (fpk P f)).alloc (bxk b)) (plk p); simpa using this)
  have B0 := hid (show Below w.heap.size w W by rw [hW]; go_grown)
  have HR := hid hr
  have HH := hid hH
  have H1 := hid h1
  have H2 := hid h2
  clear hr hH h1 h2
  go_enter Try.func9, Try.ntmps9
  go_wp2_with fail
  rw [← hW]
  clear hW
  have hs := hid (show (W.drew.heap[w.heap.size]? = some (fpk P f) ∧ W.drew.heap[w.heap.size + 1]? = some (bxk b)) from ⟨a0.out, b0.out⟩)
  refine start_ (n := 9) (S := (fun w' => w'.heap[w.heap.size]? = some (fpk P f) ∧ w'.heap[w.heap.size + 1]? = some (bxk b))) (ds := []) #[false, false, false, false, false, false, false, false, false] (by kernel_rfl) rfl rfl hs.out (fun hHeld => ?_)
  refine take_ (i := 0) (N := some 12) (v := ?_) (a' := ?_) #[true, false, false, false, false, false, false, false, false] rfl rfl (by kernel_rfl) (fun _ _ _ h => h) (Or.inl ⟨by rfl, ?_⟩) hHeld ?_ ?_
  rotate_left
  · intro w' hS'
    obtain ⟨s0, s1, s2, s3⟩ := cells4 hS'.1; obtain ⟨q0, q1, q2, q3, q4, q5⟩ := cells6 hS'.2
    go_simp
    with_reducible rfl
  rotate_left
  · simp only [Act.put, List.setIfInBounds_toArray, List.set_cons_zero, List.set_cons_succ]
    rfl
  refine take_ (i := 2) (N := some 14) (v := ?_) (a' := ?_) #[true, false, true, false, false, false, false, false, false] rfl rfl (by kernel_rfl) (fun _ _ _ h => h) (Or.inl ⟨by rfl, ?_⟩) hHeld ?_ ?_
  rotate_left
  · intro w' hS'
    obtain ⟨s0, s1, s2, s3⟩ := cells4 hS'.1; obtain ⟨q0, q1, q2, q3, q4, q5⟩ := cells6 hS'.2
    go_simp
    with_reducible rfl
  rotate_left
  · simp only [Act.put, List.setIfInBounds_toArray, List.set_cons_zero, List.set_cons_succ]
    rfl
  refine one_ (i := 1) (N := some 13) #[true, true, true, false, false, false, false, false, false] rfl rfl (by kernel_rfl) (by simp) (fun K hK => ?_)
  refine goes_ Try.func16 (by kernel_rfl) rfl #[fpa P f] (by rfl) rfl rfl (by (try simp only [List.map_toArray, List.map_cons, List.map_nil]); first | done | rfl) ?_
  refine (lent_any P f W.drew (HR.out.below B0.out.drew)).mono ?_
  rintro e w1 ⟨Q, rfl, hb, hq⟩
  have B1 := hid (below_then B0.out.drew B0.out.size hb)
  have a1 := hid (carry_b hb (show W.drew.heap[w.heap.size]? = _ from a0.out))
  have b1 := hid (carry_b hb (show W.drew.heap[w.heap.size + 1]? = _ from b0.out))
  have c1 := hid (carry_b hb (show W.drew.heap[w.heap.size + 1 + 1]? = _ from c0.out))
  have HQ := hid (hq.frd HR.out.rd.pl HR.out.rd.rll)
  refine ⟨_, rfl, hK.out _ _ ⟨a1.out, b1.out⟩ (fun _ => ?_)⟩
  clear hK K hb hq a0 b0 c0 B0
  refine one_ (i := 3) (N := some 15) #[true, true, true, true, false, false, false, false, false] rfl rfl (by kernel_rfl) (by simp) (fun K hK => ?_)
  refine goes_ Try.func21 (by kernel_rfl) rfl #[fpa Q f, bxa b] (by rfl) rfl rfl (by (try simp only [List.map_toArray, List.map_cons, List.map_nil]); first | done | rfl) ?_
  refine (HH.out Q w1 HQ.out).mono ?_
  rintro e w2 ⟨rfl, hb⟩
  have B2 := hid (below_then B1.out B1.out.size hb)
  have a2 := hid (carry_b hb a1.out)
  have b2 := hid (carry_b hb b1.out)
  have c2 := hid (carry_b hb c1.out)
  refine ⟨_, rfl, hK.out _ _ ⟨a2.out, b2.out⟩ (fun _ => ?_)⟩
  clear hK K hb a1 b1 c1 B1 HQ
  refine pure_ (i := 4) (N := some 11) (v := ?_) (a' := ?_) #[true, true, true, true, true, false, false, false, false] rfl rfl (by kernel_rfl) (fun _ _ _ h => h) (Or.inl ⟨by rfl, ?_⟩) ?_ ?_
  rotate_left
  · intro w'
    go_simp
    with_reducible rfl
  rotate_left
  · simp only [Act.put, List.setIfInBounds_toArray, List.set_cons_zero, List.set_cons_succ]
    rfl
  refine pure_ (i := 5) (N := some 16) (v := ?_) (a' := ?_) #[true, true, true, true, true, true, false, false, false] rfl rfl (by kernel_rfl) (fun _ _ _ h => h) (Or.inl ⟨by rfl, ?_⟩) ?_ ?_
  rotate_left
  · intro w'
    go_simp
    with_reducible rfl
  rotate_left
  · simp only [Act.put, List.setIfInBounds_toArray, List.set_cons_zero, List.set_cons_succ]
    rfl
  refine pure_ (i := 6) (N := some 17) (v := ?_) (a' := ?_) #[true, true, true, true, true, true, true, false, false] rfl rfl (by kernel_rfl) (fun _ _ _ h => h) (Or.inl ⟨by rfl, ?_⟩) ?_ ?_
  rotate_left
  · intro w'
    go_simp
    with_reducible rfl
  rotate_left
  · simp only [Act.put, List.setIfInBounds_toArray, List.set_cons_zero, List.set_cons_succ]
    rfl
  refine pure_ (i := 7) (N := some 7) (v := ?_) (a' := ?_) #[true, true, true, true, true, true, true, true, false] rfl rfl (by kernel_rfl) (fun _ _ _ h => h) (Or.inl ⟨by rfl, ?_⟩) ?_ ?_
  rotate_left
  · intro w'
    go_simp
    with_reducible rfl
  rotate_left
  · simp only [Act.put, List.setIfInBounds_toArray, List.set_cons_zero, List.set_cons_succ]
    rfl
  refine pure_ (i := 8) (N := some 8) (v := ?_) (a' := ?_) #[true, true, true, true, true, true, true, true, true] rfl rfl (by kernel_rfl) (fun _ _ _ h => h) (Or.inl ⟨by rfl, ?_⟩) ?_ ?_
  rotate_left
  · intro w'
    go_simp
    with_reducible rfl
  rotate_left
  · simp only [Act.put, List.setIfInBounds_toArray, List.set_cons_zero, List.set_cons_succ]
    rfl
  refine done_ (by kernel_rfl) ?_
  obtain ⟨s0, s1, s2, s3⟩ := cells4 a2.out
  obtain ⟨q0, q1, q2, q3, q4, q5⟩ := cells6 b2.out
  obtain ⟨p0, p1, p2⟩ := cells3 c2.out
  by_cases hE : E = 0
  · subst hE
    cases v with
    | false =>
      go_wp2_with fail
      refine (awake_any _).mono ?_
      rintro e w3 ⟨rfl, hb⟩
      have B3 := hid (below_then B2.out B2.out.size hb)
      go_wp2
      go_ret
      exact ⟨rfl, B3.out⟩
    | true =>
      cases hxx : btw p.x b.x with
      | false =>
        go_wp2_with fail
        refine (between_any p.x b.x _).mono ?_
        rw [hxx]
        rintro e w3 ⟨rfl, hb⟩
        have B3 := hid (below_then B2.out B2.out.size hb)
        clear hb s0 s1 s2 s3 q0 q1 q2 q3 q4 q5 p0 p1 p2
        go_wp2_with fail
        refine (awake_any _).mono ?_
        rintro e w4 ⟨rfl, hb⟩
        have B4 := hid (below_then B3.out B3.out.size hb)
        go_wp2
        go_ret
        exact ⟨rfl, B4.out⟩
      | true =>
        go_wp2_with fail
        refine (between_any p.x b.x _).mono ?_
        rw [hxx]
        replace hxx := hid hxx
        rintro e w3 ⟨rfl, hb⟩
        have B3 := hid (below_then B2.out B2.out.size hb)
        have a3 := hid (carry_b hb a2.out)
        have b3 := hid (carry_b hb b2.out)
        have c3 := hid (carry_b hb c2.out)
        clear hb s0 s1 s2 s3 q0 q1 q2 q3 q4 q5 p0 p1 p2 a2 b2 c2 B2
        obtain ⟨s0, s1, s2, s3⟩ := cells4 a3.out
        obtain ⟨q0, q1, q2, q3, q4, q5⟩ := cells6 b3.out
        obtain ⟨p0, p1, p2⟩ := cells3 c3.out
        cases hxy : btw p.y b.y with
        | false =>
          go_wp2_with fail
          refine (between_any p.y b.y _).mono ?_
          rw [hxy]
          rintro e w4 ⟨rfl, hb⟩
          have B4 := hid (below_then B3.out B3.out.size hb)
          clear hb s0 s1 s2 s3 q0 q1 q2 q3 q4 q5 p0 p1 p2
          go_wp2_with fail
          refine (awake_any _).mono ?_
          rintro e w5 ⟨rfl, hb⟩
          have B5 := hid (below_then B4.out B4.out.size hb)
          go_wp2
          go_ret
          exact ⟨rfl, B5.out⟩
        | true =>
          go_wp2_with fail
          refine (between_any p.y b.y _).mono ?_
          rw [hxy]
          replace hxy := hid hxy
          rintro e w4 ⟨rfl, hb⟩
          have B4 := hid (below_then B3.out B3.out.size hb)
          have a4 := hid (carry_b hb a3.out)
          have b4 := hid (carry_b hb b3.out)
          have c4 := hid (carry_b hb c3.out)
          clear hb s0 s1 s2 s3 q0 q1 q2 q3 q4 q5 p0 p1 p2 a3 b3 c3 B3
          obtain ⟨s0, s1, s2, s3⟩ := cells4 a4.out
          obtain ⟨q0, q1, q2, q3, q4, q5⟩ := cells6 b4.out
          obtain ⟨p0, p1, p2⟩ := cells3 c4.out
          cases hxz : btw p.z b.z with
          | false =>
            go_wp2_with fail
            refine (between_any p.z b.z _).mono ?_
            rw [hxz]
            rintro e w5 ⟨rfl, hb⟩
            have B5 := hid (below_then B4.out B4.out.size hb)
            clear hb s0 s1 s2 s3 q0 q1 q2 q3 q4 q5 p0 p1 p2
            go_wp2_with fail
            refine (awake_any _).mono ?_
            rintro e w6 ⟨rfl, hb⟩
            have B6 := hid (below_then B5.out B5.out.size hb)
            go_wp2
            go_ret
            exact ⟨rfl, B6.out⟩
          | true =>
            go_wp2_with fail
            refine (between_any p.z b.z _).mono ?_
            rw [hxz]
            replace hxz := hid hxz
            rintro e w5 ⟨rfl, hb⟩
            have B5 := hid (below_then B4.out B4.out.size hb)
            have a5 := hid (carry_b hb a4.out)
            have b5 := hid (carry_b hb b4.out)
            have c5 := hid (carry_b hb c4.out)
            clear hb s0 s1 s2 s3 q0 q1 q2 q3 q4 q5 p0 p1 p2 a4 b4 c4 B4
            obtain ⟨s0, s1, s2, s3⟩ := cells4 a5.out
            obtain ⟨q0, q1, q2, q3, q4, q5⟩ := cells6 b5.out
            obtain ⟨p0, p1, p2⟩ := cells3 c5.out
            obtain ⟨e1, e2, e3, e4⟩ := H2.out (by trivial) (by trivial) hxx.out hxy.out hxz.out
            replace e1 := hid e1
            replace e2 := hid e2
            go_wp2_with fail
            have hs6 := hid (show (w5.drew.heap[w.heap.size]? = some (fpk P f) ∧ w5.drew.heap[w.heap.size + 1 + 1]? = some (plk p)) from ⟨a5.out, c5.out⟩)
            refine start_ (n := 14) (S := (fun w' => w'.heap[w.heap.size]? = some (fpk P f) ∧ w'.heap[w.heap.size + 1 + 1]? = some (plk p))) (ds := []) #[false, false, false, false, false, false, false, false, false, false, false, false, false, false] (by kernel_rfl) rfl rfl hs6.out (fun hHeld => ?_)
            refine pure_ (i := 0) (N := some 53) (v := ?_) (a' := ?_) #[true, false, false, false, false, false, false, false, false, false, false, false, false, false] rfl rfl (by kernel_rfl) (fun _ _ _ h => h) (Or.inl ⟨by rfl, ?_⟩) ?_ ?_
            rotate_left
            · intro w'
              go_simp
              with_reducible rfl
            rotate_left
            · simp only [Act.put, List.setIfInBounds_toArray, List.set_cons_zero, List.set_cons_succ]
              rfl
            refine take_ (i := 1) (N := some 54) (v := ?_) (a' := ?_) #[true, true, false, false, false, false, false, false, false, false, false, false, false, false] rfl rfl (by kernel_rfl) (fun _ _ _ h => h) (Or.inl ⟨by rfl, ?_⟩) hHeld ?_ ?_
            rotate_left
            · intro w' hS'
              obtain ⟨r0, r1, r2, r3⟩ := cells4 hS'.1; obtain ⟨t0, t1, t2⟩ := cells3 hS'.2
              go_simp
              with_reducible rfl
            rotate_left
            · simp only [Act.put, List.setIfInBounds_toArray, List.set_cons_zero, List.set_cons_succ]
              rfl
            refine pure_ (i := 3) (N := some 56) (v := ?_) (a' := ?_) #[true, true, false, true, false, false, false, false, false, false, false, false, false, false] rfl rfl (by kernel_rfl) (fun _ _ _ h => h) (Or.inl ⟨by rfl, ?_⟩) ?_ ?_
            rotate_left
            · intro w'
              go_simp
              with_reducible rfl
            rotate_left
            · simp only [Act.put, List.setIfInBounds_toArray, List.set_cons_zero, List.set_cons_succ]
              rfl
            refine take_ (i := 4) (N := some 57) (v := ?_) (a' := ?_) #[true, true, false, true, true, false, false, false, false, false, false, false, false, false] rfl rfl (by kernel_rfl) (fun _ _ _ h => h) (Or.inl ⟨by rfl, ?_⟩) hHeld ?_ ?_
            rotate_left
            · intro w' hS'
              obtain ⟨r0, r1, r2, r3⟩ := cells4 hS'.1; obtain ⟨t0, t1, t2⟩ := cells3 hS'.2
              go_simp
              with_reducible rfl
            rotate_left
            · simp only [Act.put, List.setIfInBounds_toArray, List.set_cons_zero, List.set_cons_succ]
              rfl
            refine pure_ (i := 5) (N := some 58) (v := ?_) (a' := ?_) #[true, true, false, true, true, true, false, false, false, false, false, false, false, false] rfl rfl (by kernel_rfl) (fun _ _ _ h => h) (Or.inl ⟨by rfl, ?_⟩) ?_ ?_
            rotate_left
            · intro w'
              go_simp
              with_reducible rfl
            rotate_left
            · simp only [Act.put, List.setIfInBounds_toArray, List.set_cons_zero, List.set_cons_succ]
              rfl
            refine take_ (i := 6) (N := some 59) (v := ?_) (a' := ?_) #[true, true, false, true, true, true, true, false, false, false, false, false, false, false] rfl rfl (by kernel_rfl) (fun _ _ _ h => h) (Or.inl ⟨by rfl, ?_⟩) hHeld ?_ ?_
            rotate_left
            · intro w' hS'
              obtain ⟨r0, r1, r2, r3⟩ := cells4 hS'.1; obtain ⟨t0, t1, t2⟩ := cells3 hS'.2
              go_simp
              with_reducible rfl
            rotate_left
            · simp only [Act.put, List.setIfInBounds_toArray, List.set_cons_zero, List.set_cons_succ]
              rfl
            refine one_ (i := 2) (N := some 55) #[true, true, true, true, true, true, true, false, false, false, false, false, false, false] rfl rfl (by kernel_rfl) (by simp) (fun K hK => ?_)
            refine goes_ Try.func35 (by kernel_rfl) rfl #[.slice P.A f.poly.length P.c] (by rfl) rfl rfl (by (try simp only [List.map_toArray, List.map_cons, List.map_nil]); first | done | rfl) ?_
            refine (spare_any P.A P.c f.poly w5.drew ((HR.out.below B5.out.drew).rd.poly) HR.out.pl HR.out.a).mono ?_
            rintro e w6 ⟨g6, k6, rfl, hb, hq⟩
            have B6 := hid (below_then B5.out.drew B5.out.size hb)
            have a6 := hid (carry_b hb (show w5.drew.heap[w.heap.size]? = _ from a5.out))
            have c6 := hid (carry_b hb (show w5.drew.heap[w.heap.size + 1 + 1]? = _ from c5.out))
            have HQ := hid (pts_lent hq)
            refine ⟨_, rfl, hK.out _ _ ⟨a6.out, c6.out⟩ (fun _ => ?_)⟩
            clear hK K hb hq s0 s1 s2 s3 q0 q1 q2 q3 q4 q5 p0 p1 p2
            refine one_ (i := 7) (N := some 60) #[true, true, true, true, true, true, true, true, false, false, false, false, false, false] rfl rfl (by kernel_rfl) (by simp) (fun K hK => ?_)
            refine goes_ Try.func36 (by kernel_rfl) rfl #[.int .i64 p.x, .int .i64 p.y] (by rfl) rfl rfl (by (try simp only [List.map_toArray, List.map_cons, List.map_nil]); first | done | rfl) ?_
            refine (at_any p.x p.y w6).mono ?_
            rintro e w7 ⟨rfl, hb⟩
            have B7 := hid (below_then B6.out B6.out.size hb)
            have a7 := hid (carry_b hb a6.out)
            have c7 := hid (carry_b hb c6.out)
            have HQ7 := hid (HQ.out.below hb)
            refine ⟨_, rfl, hK.out _ _ ⟨a7.out, c7.out⟩ (fun _ => ?_)⟩
            clear hK K hb
            refine one_ (i := 8) (N := some 61) #[true, true, true, true, true, true, true, true, true, false, false, false, false, false] rfl rfl (by kernel_rfl) (by simp) (fun K hK => ?_)
            refine goes_ Try.func34 (by kernel_rfl) rfl #[.slice (some ⟨g6, 0, none⟩) f.poly.length k6, .agg #[.int .i64 p.x, .int .i64 p.y]] (by rfl) rfl rfl (by (try simp only [List.map_toArray, List.map_cons, List.map_nil]); first | done | rfl) ?_
            refine (side_any (some ⟨g6, 0, none⟩) k6 f.poly ⟨p.x, p.y⟩ w7 HQ7.out HR.out.rd.pl).mono ?_
            rw [e1.out, e2.out]
            rintro e w8 ⟨rfl, hb⟩
            have B8 := hid (below_then B7.out B7.out.size hb)
            have a8 := hid (carry_b hb a7.out)
            have c8 := hid (carry_b hb c7.out)
            refine ⟨_, rfl, hK.out _ _ ⟨a8.out, c8.out⟩ (fun _ => ?_)⟩
            clear hK K hb
            refine pure_ (i := 9) (N := some 52) (v := ?_) (a' := ?_) #[true, true, true, true, true, true, true, true, true, true, false, false, false, false] rfl rfl (by kernel_rfl) (fun _ _ _ h => h) (Or.inl ⟨by rfl, ?_⟩) ?_ ?_
            rotate_left
            · intro w'
              go_simp
              with_reducible rfl
            rotate_left
            · simp only [Act.put, List.setIfInBounds_toArray, List.set_cons_zero, List.set_cons_succ]
              rfl
            refine pure_ (i := 10) (N := some 62) (v := ?_) (a' := ?_) #[true, true, true, true, true, true, true, true, true, true, true, false, false, false] rfl rfl (by kernel_rfl) (fun _ _ _ h => h) (Or.inl ⟨by rfl, ?_⟩) ?_ ?_
            rotate_left
            · intro w'
              go_simp
              with_reducible rfl
            rotate_left
            · simp only [Act.put, List.setIfInBounds_toArray, List.set_cons_zero, List.set_cons_succ]
              rfl
            refine pure_ (i := 11) (N := some 63) (v := ?_) (a' := ?_) #[true, true, true, true, true, true, true, true, true, true, true, true, false, false] rfl rfl (by kernel_rfl) (fun _ _ _ h => h) (Or.inl ⟨by rfl, ?_⟩) ?_ ?_
            rotate_left
            · intro w'
              go_simp
              with_reducible rfl
            rotate_left
            · simp only [Act.put, List.setIfInBounds_toArray, List.set_cons_zero, List.set_cons_succ]
              rfl
            refine pure_ (i := 12) (N := some 9) (v := ?_) (a' := ?_) #[true, true, true, true, true, true, true, true, true, true, true, true, true, false] rfl rfl (by kernel_rfl) (fun _ _ _ h => h) (Or.inl ⟨by rfl, ?_⟩) ?_ ?_
            rotate_left
            · intro w'
              go_simp
              with_reducible rfl
            rotate_left
            · simp only [Act.put, List.setIfInBounds_toArray, List.set_cons_zero, List.set_cons_succ]
              rfl
            refine pure_ (i := 13) (N := some 10) (v := ?_) (a' := ?_) #[true, true, true, true, true, true, true, true, true, true, true, true, true, true] rfl rfl (by kernel_rfl) (fun _ _ _ h => h) (Or.inl ⟨by rfl, ?_⟩) ?_ ?_
            rotate_left
            · intro w'
              go_simp
              with_reducible rfl
            rotate_left
            · simp only [Act.put, List.setIfInBounds_toArray, List.set_cons_zero, List.set_cons_succ]
              rfl
            refine done_ (by kernel_rfl) ?_
            go_wp2_with fail
            refine (awake_any _).mono ?_
            rintro e w9 ⟨rfl, hb⟩
            have B9 := hid (below_then B8.out B8.out.size hb)
            obtain ⟨s0, s1, s2, s3⟩ := cells4 (carry_b hb a8.out)
            obtain ⟨p0, p1, p2⟩ := cells3 (carry_b hb c8.out)
            clear hb
            go_wp2
            go_ret
            exact ⟨rfl, B9.out⟩
  · have hv := H1.out hE
    subst hv
    have hEb : (E != 0) = true := by simp [hE]
    replace hE := hid hE
    go_wp2_with fail
    refine (awake_any _).mono ?_
    rintro e w3 ⟨rfl, hb⟩
    have B3 := hid (below_then B2.out B2.out.size hb)
    go_wp2
    go_ret
    exact ⟨rfl, B3.out⟩
end Go.Proofs.Ytigcbldbolablaa
