/- The law VoteHolds, walked: one bad unit cannot turn the vote. -/
import Derived.Test.YthhmamdgpfgpfaaV8
namespace Go.Proofs.Ythhmamdgpfgpfaa
open Go.RowKit
attribute [local go_sem] Oper.semAt_some

def cntK (now : Tk) (lo hi : Int) (k : Nat) : Int := (if 0 < k then one (gd now.r0 lo hi) else 0) + (if 1 < k then one (gd now.r1 lo hi) else 0) + (if 2 < k then one (gd now.r2 lo hi) else 0)
theorem one_le (b : Bool) : 0 ≤ one b ∧ one b ≤ 1 := by cases b <;> simp [one]
theorem cntK_le (now : Tk) (lo hi : Int) (k : Nat) : 0 ≤ cntK now lo hi k ∧ cntK now lo hi k ≤ 3 := by
  have h0 := one_le (gd now.r0 lo hi)
  have h1 := one_le (gd now.r1 lo hi)
  have h2 := one_le (gd now.r2 lo hi)
  unfold cntK
  split <;> split <;> split <;> omega
theorem wit_later {w : World} {k : Later w} (n lo hi : Int) {b : Bool} (h : wit n lo hi = b) : Calls Try.prog 16 #[.int .i64 n, .agg #[.int .i64 lo, .int .i64 hi]] (lat w k) fun e w'' => e = .returned (.bool b) ∧ ∃ m : Later w, w'' = lat w m := h ▸ within_later n lo hi

set_option maxRecDepth 100000 in
set_option maxHeartbeats 4000000 in
theorem holds_walk (stale : Int) (A : Option Addr) (n c : Nat) (ts : List Tk) (now : Tk) (lo hi : Int) (w : World) (_ : i64 stale) (hts : Tks w A ts) (hn : ts.length = n) (hmax : n ≤ 9223372036854775807) (hnow : now.wf)
    (hlaw : ∀ s : Vr, s.ok → one (gd now.r0 lo hi) + one (gd now.r1 lo hi) + one (gd now.r2 lo hi) < 2 ∨ ((vlK s now.r0 now.r1 now.r2 3).length ≠ 0 ∧ wit (pick (vlK s now.r0 now.r1 now.r2 3)) lo hi = true)) :
    Calls Try.prog 4 #[.agg #[.int .i64 stale, .slice A n c], ub now.r0 now.r1 now.r2, .agg #[.int .i64 lo, .int .i64 hi]] w fun e w' => e = .returned (.bool true) ∧ Below w.heap.size w w' := by
  by_cases hst : stale < 0 ∨ 65535 ≤ stale
  · have hh := hid hlaw
    clear hlaw
    replace hts := hid hts
    go_enter Try.func4, Try.ntmps4
    go_wp2_with fail
    refine (new_no stale 0 _ (by omega)).mono ?_
    rintro e w1 ⟨rfl, hw1⟩
    rw [hw1]
    clear hw1
    by_cases h0 : stale < 0
    · go_wp2_with fail
      refine (awake_any _).mono ?_
      rintro e w2 ⟨rfl, hb2⟩
      have c0 : w2.cell? ⟨w.heap.size, 0, none⟩ = some (.int .i64 stale) := by rw [hb2.cell (by simp; omega)]; simp [go_sem]
      have hz := hb2.size
      simp only [World.size_alloc] at hz
      have hb3 := hid (show Below w.heap.size w w2 from Below.trans (by go_grown) (hb2.mono (by simp; omega)))
      replace hb2 := hid hb2
      go_wp2
      go_ret
      exact ⟨rfl, hb3.out⟩
    · have h1 : 65534 < stale := by omega
      go_wp2_with fail
      refine (awake_any _).mono ?_
      rintro e w2 ⟨rfl, hb2⟩
      have c0 : w2.cell? ⟨w.heap.size, 0, none⟩ = some (.int .i64 stale) := by rw [hb2.cell (by simp; omega)]; simp [go_sem]
      have hz := hb2.size
      simp only [World.size_alloc] at hz
      have hb3 := hid (show Below w.heap.size w w2 from Below.trans (by go_grown) (hb2.mono (by simp; omega)))
      replace hb2 := hid hb2
      go_wp2
      go_ret
      exact ⟨rfl, hb3.out⟩
  · have hs0 : 0 ≤ stale := by omega
    have hs1 : stale < 65535 := by omega
    clear hst
    replace hlaw := hid hlaw
    replace hts := hid hts
    replace hnow := hid hnow
    go_enter Try.func4, Try.ntmps4
    go_wp2_with fail
    obtain ⟨W3, hW3⟩ : ∃ W3, W3 = ((w.alloc (.cells #[.int .i64 stale, .slice A n c] 41)).alloc (.cells #[.bool now.r0.ok, .int .i64 now.r0.x, .bool now.r1.ok, .int .i64 now.r1.x, .bool now.r2.ok, .int .i64 now.r2.x] 38)).alloc (.cells #[.int .i64 lo, .int .i64 hi] 43) := ⟨_, rfl⟩
    refine (new_yes stale 0 _ hs0 hs1 (by decide) (by decide)).mono ?_
    rintro e w1 ⟨rfl, hw1⟩
    rw [← hW3] at hw1
    have hz3 : W3.heap.size = w.heap.size + 1 + 1 + 1 := by rw [hW3]; simp
    have hw3 : Below w.heap.size w W3 := by rw [hW3]; go_grown
    have x0 : W3.cell? ⟨w.heap.size, 1, none⟩ = some (.slice A n c) := by rw [hW3]; simp [go_sem]
    have hv1 : w1.heap[w.heap.size + 1 + 1 + 1]? = some (vb (new0 stale 0)) := by rw [hw1, ← hz3]; exact heap_alloc_new W3 _
    have hb1 : Below W3.heap.size W3 w1 := by rw [hw1]; go_grown
    have ht3 := hid (hts.out.below hw3)
    have hmm : Hid (∀ j v, W3.cell? ⟨w.heap.size + 1, j, none⟩ = some v ∨ W3.cell? ⟨w.heap.size + 1 + 1, j, none⟩ = some v → True) := hid (fun _ _ _ => trivial)
    have y0 : Hid (W3.cell? ⟨w.heap.size + 1, 0, none⟩ = some (.bool now.r0.ok) ∧ W3.cell? ⟨w.heap.size + 1, 1, none⟩ = some (.int .i64 now.r0.x) ∧ W3.cell? ⟨w.heap.size + 1, 2, none⟩ = some (.bool now.r1.ok) ∧ W3.cell? ⟨w.heap.size + 1, 3, none⟩ = some (.int .i64 now.r1.x) ∧ W3.cell? ⟨w.heap.size + 1, 4, none⟩ = some (.bool now.r2.ok) ∧ W3.cell? ⟨w.heap.size + 1, 5, none⟩ = some (.int .i64 now.r2.x) ∧ W3.cell? ⟨w.heap.size + 1 + 1, 0, none⟩ = some (.int .i64 lo) ∧ W3.cell? ⟨w.heap.size + 1 + 1, 1, none⟩ = some (.int .i64 hi)) := by
      rw [hW3]
      refine hid ⟨?_, ?_, ?_, ?_, ?_, ?_, ?_, ?_⟩ <;> simp [go_sem]
    replace hW3 := hid hW3
    replace hw3 := hid hw3
    replace hb1 := hid hb1
    replace hv1 := hid hv1
    replace x0 := hid x0
    clear hmm
    clear hw1
    go_wp2_with fail
    go_loopw [9] (fun v9 wr => ∃ (k : Nat) (s : Vr), v9 = .int .i64 k ∧ k ≤ n ∧ Hid s.ok ∧ Hid (wr.heap[w.heap.size + 1 + 1 + 1]? = some (vb s)) ∧ Hid (Below W3.heap.size W3 wr)) (fun i _ => n - (intOf i).toNat)
    case atStart => exact ⟨0, _, rfl, by omega, hid (new0_ok hs0 hs1 (by omega)), hv1, hb1⟩
    case round =>
      obtain ⟨k, s, rfl, hk, hok, hv, hb⟩ := hrel
      clear hv1 hb1
      have x1 := (hb.out.cell (World.block_lt_of_cell? W3 _ x0.out)).trans x0.out
      by_cases hlt : k < n
      · obtain ⟨t, ht⟩ : ∃ t, ts[k]? = some t := ⟨ts[k]'(by omega), List.getElem?_eq_getElem (by omega)⟩
        obtain ⟨bb, off, rfl, hbb, twf, t0, t1, t2, t3, t4, t5⟩ := ht3.out.below hb.out k t ht
        replace ht := hid ht
        replace twf := hid twf
        go_wp2_with fail
        refine (step_ok _ s t.r0 t.r1 t.r2 _ hv.out hok.out twf.out.1 twf.out.2.1 twf.out.2.2).mono ?_
        rintro e w4 ⟨rfl, hp⟩
        have hv4 := hid hp.at_
        have hok4 := hid (fin_ok hok.out twf.out.1 twf.out.2.1 twf.out.2.2)
        have hb4 := hid (hb.out.trans ((hp.mono hb.out.size).below (by omega)))
        clear hp
        go_wp2
        go_roundw
        case rel => exact ⟨k + 1, _, by simp, by omega, hok4, hv4, hb4⟩
        case measure => simp [intOf]; omega
      · have hkn : k = n := by omega
        clear hts ht3
        have z1 : wr.heap.size ≥ w.heap.size + 1 + 1 + 1 := by have := hb.out.size; omega
        replace hb : Hid (Below W3.heap.size W3 wr) := hb

        go_wp2_with fail
        go_loopw [10, 11] (fun v10 v11 wq => ∃ k : Nat, v11 = .int .i64 k ∧ k ≤ 3 ∧ v10 = .int .i64 (cntK now lo hi k) ∧ Hid (wq.heap[w.heap.size + 1 + 1 + 1]? = some (vb s)) ∧ Hid (Below W3.heap.size W3 wq)) (fun _ i _ => 3 - (intOf i).toNat)
        case atStart => exact ⟨0, rfl, by omega, rfl, hv, hb⟩
        case round =>
          clear hv hb z1
          obtain ⟨k, rfl, hk, rfl, hv, hb⟩ := hrel
          have g0 := fun j v (h : W3.cell? ⟨w.heap.size + 1, j, none⟩ = some v) => (hb.out.cell (World.block_lt_of_cell? W3 _ h)).trans h
          have g1 := fun j v (h : W3.cell? ⟨w.heap.size + 1 + 1, j, none⟩ = some v) => (hb.out.cell (World.block_lt_of_cell? W3 _ h)).trans h
          have u0 := lat_fact (g0 _ _ y0.out.1)
          have u1 := lat_fact (g0 _ _ y0.out.2.1)
          have u2 := lat_fact (g0 _ _ y0.out.2.2.1)
          have u3 := lat_fact (g0 _ _ y0.out.2.2.2.1)
          have u4 := lat_fact (g0 _ _ y0.out.2.2.2.2.1)
          have u5 := lat_fact (g0 _ _ y0.out.2.2.2.2.2.1)
          have u6 := lat_fact (g1 _ _ y0.out.2.2.2.2.2.2.1)
          have u7 := lat_fact (g1 _ _ y0.out.2.2.2.2.2.2.2)
          have d0 := g0 _ _ y0.out.1
          have d1 := g0 _ _ y0.out.2.1
          have d2 := g0 _ _ y0.out.2.2.1
          have d3 := g0 _ _ y0.out.2.2.2.1
          have d4 := g0 _ _ y0.out.2.2.2.2.1
          have d5 := g0 _ _ y0.out.2.2.2.2.2.1
          have d6 := g1 _ _ y0.out.2.2.2.2.2.2.1
          have d7 := g1 _ _ y0.out.2.2.2.2.2.2.2
          clear g0 g1
          have : k = 3 ∨ k = 0 ∨ k = 1 ∨ k = 2 := by omega
          rcases this with rfl | rfl | rfl | rfl
          · clear u0 u1 u2 u3 u4 u5 u6 u7 x1
            have hL := hlaw.out s hok.out
            have hc : cntK now lo hi 3 = one (gd now.r0 lo hi) + one (gd now.r1 lo hi) + one (gd now.r2 lo hi) := by simp [cntK]
            rw [← hc] at hL
            clear hc
            replace hL := hid hL
            generalize cntK now lo hi 3 = cn at *
            have hz := hb.out.size
            rw [hz3] at hz
            go_wp2_with fail
            refine (step_ok _ s now.r0 now.r1 now.r2 _ hv.out hok.out hnow.out.1 hnow.out.2.1 hnow.out.2.2).mono ?_
            rintro e w5 ⟨rfl, hp⟩
            have hb5 := hb.out.trans ((hp.mono hb.out.size).below (by omega))
            have hz5 := hb5.size
            rw [hz3] at hz5
            have hN5 : w.heap.size + 1 + 1 + 1 < w5.heap.size := hp.lt
            have v6 := (hb5.cell (World.block_lt_of_cell? W3 _ y0.out.2.2.2.2.2.2.1)).trans y0.out.2.2.2.2.2.2.1
            have v7 := (hb5.cell (World.block_lt_of_cell? W3 _ y0.out.2.2.2.2.2.2.2)).trans y0.out.2.2.2.2.2.2.2
            clear d0 d1 d2 d3 d4 d5 d6 d7 hp hv hb
            generalize ho : decide ((vlK s now.r0 now.r1 now.r2 3).length ≠ 0) = o at *
            generalize hx : pick (vlK s now.r0 now.r1 now.r2 3) = x at *
            have hL2 : Hid (cn < 2 ∨ (o = true ∧ wit x lo hi = true)) := hid (by
              rcases hL.out with h | h
              · exact .inl h
              · exact .inr ⟨by rw [← ho]; exact decide_eq_true h.1, h.2⟩)
            clear hL
            replace ho := hid ho
            replace hx := hid hx
            replace hb5 := hid hb5
            go_wp2_with fail
            refine (awake_any _).mono ?_
            rintro e w6 ⟨rfl, hb6⟩
            have hr6 := carry_b hb6 (heap_alloc_new w5 (rb o x))
            obtain ⟨k0, k1⟩ := rb_cells hr6
            have l6 := (hb6.cell (p := ⟨w.heap.size + 1 + 1, 0, none⟩) (by simp; omega)).trans ((World.cell?_alloc_past (w := w5) (rb o x) _ _ (by omega)).trans v6)
            have l7 := (hb6.cell (p := ⟨w.heap.size + 1 + 1, 1, none⟩) (by simp; omega)).trans ((World.cell?_alloc_past (w := w5) (rb o x) _ _ (by omega)).trans v7)
            have hB6 := hid (hw3.out.trans ((hb5.out.trans ((Below.refl _ _).alloc (by omega) _ |>.trans (hb6.mono (by simp; omega)))).mono (by omega)))
            replace hb6 := hid hb6
            replace hr6 := hid hr6
            clear v6 v7
            by_cases h2 : cn < 2
            · go_wp2
              go_ret
              exact ⟨rfl, hB6.out⟩
            · have hoo : o = true := by rcases hL2.out with h | h; exact absurd h h2; exact h.1
              have hww : wit x lo hi = true := by rcases hL2.out with h | h; exact absurd h h2; exact h.2
              rw [hoo] at k0
              replace hoo := hid hoo
              replace hww := hid hww
              go_wp2_with fail
              refine (within_any x lo hi _).mono ?_
              rw [hww.out]
              rintro e w7 ⟨rfl, hb7⟩
              have hB7 := hid (hB6.out.trans (hb7.mono hB6.out.size))
              clear hb7
              go_wp2
              go_ret
              exact ⟨rfl, hB7.out⟩
          · cases ho : now.r0.ok with
            | false =>
              have hc : Hid (cntK now lo hi 1 = cntK now lo hi 0) := hid (by simp [cntK, gd, one, ho])
              replace ho := hid ho
              rw [ho.out] at u0 d0
              go_wp2_with fail
              refine wp_region_later_lit (by kernel_rfl) (by kernel_rfl) ?_
              repeat (go_big_quiet_step (exact within_later _ _ _))
              refine wpQuiet_nil ?_
              rintro _ ⟨nq, rfl⟩
              go_wp2
              go_roundw
              case rel => exact ⟨1, rfl, by omega, by rw [hc.out], hid (lat_heap hv.out nq), hid (hb.out.trans ((lat_below _ nq).mono hb.out.size))⟩
              case measure => simp [intOf]
            | true =>
              cases hw : wit now.r0.x lo hi with
              | false =>
                have hc : Hid (cntK now lo hi 1 = cntK now lo hi 0) := hid (by simp [cntK, gd, one, ho, hw])
                replace ho := hid ho
                rw [ho.out] at u0 d0
                replace hw := hid hw
                go_wp2_with fail
                refine wp_region_later_lit (by kernel_rfl) (by kernel_rfl) ?_
                repeat (go_big_quiet_step (exact wit_later _ _ _ hw.out))
                refine wpQuiet_nil ?_
                rintro _ ⟨nq, rfl⟩
                go_wp2
                go_roundw
                case rel => exact ⟨1, rfl, by omega, by rw [hc.out], hid (lat_heap hv.out nq), hid (hb.out.trans ((lat_below _ nq).mono hb.out.size))⟩
                case measure => simp [intOf]
              | true =>
                have hc : Hid (cntK now lo hi 1 = cntK now lo hi 0 + 1) := hid (by simp [cntK, gd, one, ho, hw])
                have hcb := cntK_le now lo hi 0
                replace ho := hid ho
                rw [ho.out] at u0 d0
                replace hw := hid hw
                go_wp2_with fail
                refine wp_region_later_lit (by kernel_rfl) (by kernel_rfl) ?_
                repeat (go_big_quiet_step (exact wit_later _ _ _ hw.out))
                refine wpQuiet_nil ?_
                rintro _ ⟨nq, rfl⟩
                go_wp2
                go_roundw
                case rel => exact ⟨1, rfl, by omega, by rw [hc.out], hid (lat_heap hv.out nq), hid (hb.out.trans ((lat_below _ nq).mono hb.out.size))⟩
                case measure => simp [intOf]
          · cases ho : now.r1.ok with
            | false =>
              have hc : Hid (cntK now lo hi 2 = cntK now lo hi 1) := hid (by simp [cntK, gd, one, ho])
              replace ho := hid ho
              rw [ho.out] at u2 d2
              go_wp2_with fail
              refine wp_region_later_lit (by kernel_rfl) (by kernel_rfl) ?_
              repeat (go_big_quiet_step (exact within_later _ _ _))
              refine wpQuiet_nil ?_
              rintro _ ⟨nq, rfl⟩
              go_wp2
              go_roundw
              case rel => exact ⟨2, rfl, by omega, by rw [hc.out], hid (lat_heap hv.out nq), hid (hb.out.trans ((lat_below _ nq).mono hb.out.size))⟩
              case measure => simp [intOf]
            | true =>
              cases hw : wit now.r1.x lo hi with
              | false =>
                have hc : Hid (cntK now lo hi 2 = cntK now lo hi 1) := hid (by simp [cntK, gd, one, ho, hw])
                replace ho := hid ho
                rw [ho.out] at u2 d2
                replace hw := hid hw
                go_wp2_with fail
                refine wp_region_later_lit (by kernel_rfl) (by kernel_rfl) ?_
                repeat (go_big_quiet_step (exact wit_later _ _ _ hw.out))
                refine wpQuiet_nil ?_
                rintro _ ⟨nq, rfl⟩
                go_wp2
                go_roundw
                case rel => exact ⟨2, rfl, by omega, by rw [hc.out], hid (lat_heap hv.out nq), hid (hb.out.trans ((lat_below _ nq).mono hb.out.size))⟩
                case measure => simp [intOf]
              | true =>
                have hc : Hid (cntK now lo hi 2 = cntK now lo hi 1 + 1) := hid (by simp [cntK, gd, one, ho, hw])
                have hcb := cntK_le now lo hi 1
                replace ho := hid ho
                rw [ho.out] at u2 d2
                replace hw := hid hw
                go_wp2_with fail
                refine wp_region_later_lit (by kernel_rfl) (by kernel_rfl) ?_
                repeat (go_big_quiet_step (exact wit_later _ _ _ hw.out))
                refine wpQuiet_nil ?_
                rintro _ ⟨nq, rfl⟩
                go_wp2
                go_roundw
                case rel => exact ⟨2, rfl, by omega, by rw [hc.out], hid (lat_heap hv.out nq), hid (hb.out.trans ((lat_below _ nq).mono hb.out.size))⟩
                case measure => simp [intOf]
          · cases ho : now.r2.ok with
            | false =>
              have hc : Hid (cntK now lo hi 3 = cntK now lo hi 2) := hid (by simp [cntK, gd, one, ho])
              replace ho := hid ho
              rw [ho.out] at u4 d4
              go_wp2_with fail
              refine wp_region_later_lit (by kernel_rfl) (by kernel_rfl) ?_
              repeat (go_big_quiet_step (exact within_later _ _ _))
              refine wpQuiet_nil ?_
              rintro _ ⟨nq, rfl⟩
              go_wp2
              go_roundw
              case rel => exact ⟨3, rfl, by omega, by rw [hc.out], hid (lat_heap hv.out nq), hid (hb.out.trans ((lat_below _ nq).mono hb.out.size))⟩
              case measure => simp [intOf]
            | true =>
              cases hw : wit now.r2.x lo hi with
              | false =>
                have hc : Hid (cntK now lo hi 3 = cntK now lo hi 2) := hid (by simp [cntK, gd, one, ho, hw])
                replace ho := hid ho
                rw [ho.out] at u4 d4
                replace hw := hid hw
                go_wp2_with fail
                refine wp_region_later_lit (by kernel_rfl) (by kernel_rfl) ?_
                repeat (go_big_quiet_step (exact wit_later _ _ _ hw.out))
                refine wpQuiet_nil ?_
                rintro _ ⟨nq, rfl⟩
                go_wp2
                go_roundw
                case rel => exact ⟨3, rfl, by omega, by rw [hc.out], hid (lat_heap hv.out nq), hid (hb.out.trans ((lat_below _ nq).mono hb.out.size))⟩
                case measure => simp [intOf]
              | true =>
                have hc : Hid (cntK now lo hi 3 = cntK now lo hi 2 + 1) := hid (by simp [cntK, gd, one, ho, hw])
                have hcb := cntK_le now lo hi 2
                replace ho := hid ho
                rw [ho.out] at u4 d4
                replace hw := hid hw
                go_wp2_with fail
                refine wp_region_later_lit (by kernel_rfl) (by kernel_rfl) ?_
                repeat (go_big_quiet_step (exact wit_later _ _ _ hw.out))
                refine wpQuiet_nil ?_
                rintro _ ⟨nq, rfl⟩
                go_wp2
                go_roundw
                case rel => exact ⟨3, rfl, by omega, by rw [hc.out], hid (lat_heap hv.out nq), hid (hb.out.trans ((lat_below _ nq).mono hb.out.size))⟩
                case measure => simp [intOf]
end Go.Proofs.Ythhmamdgpfgpfaa
