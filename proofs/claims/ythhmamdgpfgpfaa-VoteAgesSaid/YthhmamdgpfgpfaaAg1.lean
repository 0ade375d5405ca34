/- The law VoteAges, walked. -/
import Derived.Test.YthhmamdgpfgpfaaV7
namespace Go.Proofs.Ythhmamdgpfgpfaa
open Go.RowKit
attribute [local go_sem] Oper.semAt_some

def agS (st x k : Int) : Vr := ⟨st, 0, x, 0, 0, imin k 65535, 65535, 65535, 0⟩
def agO (st k : Int) : Bool := decide (imin k 65535 ≤ st)
def agX (st x k : Int) : Int := if imin k 65535 ≤ st then x else 0

theorem ag_ok {st x k : Int} (h0 : 0 ≤ st) (h1 : st < 65535) (hx : i64 x) (hk : 0 ≤ k) : (agS st x k).ok := by
  refine ⟨h0, h1, ?_, ?_, ?_, ?_, ?_, hx, ?_, ?_⟩ <;> simp [agS, i64, imin] <;> split <;> omega

theorem ag_first {st x : Int} (h0 : 0 ≤ st) (h1 : st < 65535) : vlK (new0 st 0) ⟨true, x⟩ si si 3 = [x] ∧ fin (new0 st 0) ⟨true, x⟩ si si = agS st x 0 := by
  have e : vlK (new0 st 0) ⟨true, x⟩ si si 3 = [x] := by
    rw [vl3]
    have n1 : ¬ ((65535 : Int) ≤ st) := by omega
    simp [new0, si, na, nv, inc, imin, h0, n1]
  refine ⟨e, ?_⟩
  rw [fin_eq, e]
  simp [spl, most, least, agS, new0, na, nv, si, imin]

theorem ag_next {st x k : Int} (h1 : st < 65535) (hk : 0 ≤ k) : vlK (agS st x k) si si si 3 = (if imin (k + 1) 65535 ≤ st then [x] else []) ∧ fin (agS st x k) si si si = agS st x (k + 1) := by
  have e1 : imin (imin k 65535 + 1) 65535 = imin (k + 1) 65535 := by unfold imin; split <;> split <;> (try split) <;> omega
  have e2 : imin (65535 + 1) 65535 = 65535 := by decide
  have n1 : ¬ ((65535 : Int) ≤ st) := by omega
  have e : vlK (agS st x k) si si si 3 = (if imin (k + 1) 65535 ≤ st then [x] else []) := by
    rw [vl3]
    simp only [agS, si, na, nv, inc, Bool.false_eq_true, if_false, e1, e2, if_neg n1, List.append_nil]
  refine ⟨e, ?_⟩
  rw [fin_eq, e]
  simp only [agS, si, na, nv, Bool.false_eq_true, if_false, e1, e2]
  split <;> simp [spl, most, least, srt]

theorem rb_fz {w : World} {b : Nat} {o : Bool} {x : Int} (h : w.heap[b]? = some (rb o x)) : w.frozen? ⟨b, 0, none⟩ = false ∧ w.frozen? ⟨b, 1, none⟩ = false := by
  simp [World.frozen?, h]

theorem ag_ages {st x k : Int} (b : Nat) (w : World) (hv : w.heap[b]? = some (vb (agS st x k))) :
    Calls Try.prog 12 #[.pointer (some ⟨b, 0, none⟩)] w fun e w' => e = .returned (.agg #[.int .i64 (imin k 65535), .int .i64 65535, .int .i64 65535]) ∧ Below w.heap.size w w' := ages_any b _ w hv

theorem pick1 (x : Int) : pick [x] = x := by simp [pick, srt]

theorem ag_tick1 {st x : Int} (b : Nat) (w : World) (hv : w.heap[b]? = some (vb (new0 st 0))) (h0 : 0 ≤ st) (h1 : st < 65535) (hx : i64 x) :
    Calls Try.prog 14 #[.pointer (some ⟨b, 0, none⟩), ub ⟨true, x⟩ si si] w fun e w' => e = .returned (.agg #[.bool true, .int .i64 x]) ∧ Put w.heap.size w w' b (vb (agS st x 0)) := by
  have h := step_ok b _ ⟨true, x⟩ si si w hv (new0_ok h0 h1 (by omega)) hx si_wf si_wf
  rw [(ag_first h0 h1).1, (ag_first h0 h1).2, pick1] at h
  exact h
theorem ag_tick {st x k : Int} (b : Nat) (w : World) (hv : w.heap[b]? = some (vb (agS st x k))) (h0 : 0 ≤ st) (h1 : st < 65535) (hx : i64 x) (hk : 0 ≤ k) :
    Calls Try.prog 14 #[.pointer (some ⟨b, 0, none⟩), ub si si si] w fun e w' => e = .returned (.agg #[.bool (agO st (k + 1)), .int .i64 (agX st x (k + 1))]) ∧ Put w.heap.size w w' b (vb (agS st x (k + 1))) := by
  have h := step_ok b _ si si si w hv (ag_ok h0 h1 hx hk) si_wf si_wf si_wf
  rw [(ag_next h1 hk).1, (ag_next h1 hk).2] at h
  refine h.mono ?_
  rintro e w' ⟨rfl, hp⟩
  refine ⟨?_, hp⟩
  unfold agO agX
  by_cases hc : imin (k + 1) 65535 ≤ st
  · rw [if_pos hc, if_pos hc, pick1, decide_eq_true hc]; rfl
  · rw [if_neg hc, if_neg hc, decide_eq_false hc]; rfl

set_option maxRecDepth 100000 in
set_option maxHeartbeats 2000000 in
theorem ages_law (stale quiet x : Int) (w : World) (hs : i64 stale) (hq : i64 quiet) (hx : i64 x) :
    Calls Try.prog 7 #[.int .i64 stale, .int .i64 quiet, .int .i64 x] w fun e w' => e = .returned (.bool true) ∧ Below w.heap.size w w' := by
  by_cases hst : stale < 0 ∨ 65535 ≤ stale
  · go_enter Try.func7, Try.ntmps7
    go_wp2_with fail
    refine (new_no stale 0 _ (by omega)).mono ?_
    rintro e w1 ⟨rfl, hw1⟩
    rw [hw1]
    clear hw1
    go_wp2_with fail
    refine (awake_any _).mono ?_
    rintro e w2 ⟨rfl, hb2⟩
    replace hb2 := hid hb2
    go_wp2
    go_ret
    exact ⟨rfl, hb2.out⟩
  · have hs0 : 0 ≤ stale := by omega
    have hs1 : stale < 65535 := by omega
    clear hst
    go_enter Try.func7, Try.ntmps7
    go_wp2_with fail
    refine (new_yes stale 0 _ hs0 hs1 (by decide) (by decide)).mono ?_
    rintro e w1 ⟨rfl, hw1⟩
    have hv1 : w1.heap[w.heap.size]? = some (vb (new0 stale 0)) := by rw [hw1]; exact heap_alloc_new w _
    have hb1 : Below w.heap.size w w1 := by rw [hw1]; go_grown
    clear hw1
    replace hv1 := hid hv1
    replace hb1 := hid hb1
    by_cases hqr : quiet < 0 ∨ 131072 < quiet
    · by_cases hq0 : quiet < 0
      · go_wp2_with fail
        refine (awake_any _).mono ?_
        rintro e w2 ⟨rfl, hb2⟩
        have hb2 := hid (hb1.out.trans (hb2.mono hb1.out.size))
        go_wp2
        go_ret
        exact ⟨rfl, hb2.out⟩
      · have hq1 : 131072 < quiet := by omega
        go_wp2_with fail
        refine (awake_any _).mono ?_
        rintro e w2 ⟨rfl, hb2⟩
        have hb2 := hid (hb1.out.trans (hb2.mono hb1.out.size))
        go_wp2
        go_ret
        exact ⟨rfl, hb2.out⟩
    · have hq0 : 0 ≤ quiet := by omega
      have hq1 : quiet ≤ 131072 := by omega
      clear hqr
      go_wp2_with fail
      refine (say_any x _).mono ?_
      rintro e w2 ⟨rfl, hb⟩
      have hv2 := hid (carry_b hb hv1.out)
      have hb2 := hid (hb1.out.trans (hb.mono hb1.out.size))
      clear hb hv1 hb1
      go_wp2_with fail
      refine (silent_any _).mono ?_
      rintro e w3 ⟨rfl, hb⟩
      have hv3 := hid (carry_b hb hv2.out)
      have hb3 := hid (hb2.out.trans (hb.mono hb2.out.size))
      clear hb hv2 hb2
      go_wp2_with fail
      refine (silent_any _).mono ?_
      rintro e w4 ⟨rfl, hb⟩
      have hv4 := hid (carry_b hb hv3.out)
      have hb4 := hid (hb3.out.trans (hb.mono hb3.out.size))
      clear hb hv3 hb3
      go_wp2_with fail
      refine (ag_tick1 w.heap.size w4 hv4.out hs0 hs1 hx).mono ?_
      rintro e w5 ⟨rfl, hp⟩
      have hv5 := hid hp.at_
      have hb5 := hid (hb4.out.trans ((hp.mono hb4.out.size).below (Nat.le_refl _)))
      have hne : Hid (w5.heap.size ≠ w.heap.size) := hid (by have := heap_lt hv5.out; omega)
      clear hp hv4 hb4
      go_wp2_with fail
      have hst0 : Hid ((w5.alloc (rb true x)).heap[w.heap.size]? = some (vb (agS stale x 0)) ∧ (w5.alloc (rb true x)).heap[w5.heap.size]? = some (rb (agO stale 0) (agX stale x 0)) ∧ Below w.heap.size w (w5.alloc (rb true x))) := by
        refine hid ⟨carry_a hv5.out, ?_, hb5.out.alloc hb5.out.size _⟩
        rw [heap_alloc_new]
        have h0 : imin 0 65535 ≤ stale := by simpa [imin] using hs0
        simp [agO, agX, h0]
      have hm5 : w.heap.size ≤ w5.heap.size := hb5.out.size
      have hne' : w5.heap.size ≠ w.heap.size := hne.out
      clear hv5 hb5
      go_loopw [10] (fun v10 wr => ∃ k : Nat, v10 = .int .i64 k ∧ (k : Int) ≤ quiet ∧ Hid (wr.heap[w.heap.size]? = some (vb (agS stale x k)) ∧ wr.heap[w5.heap.size]? = some (rb (agO stale k) (agX stale x k)) ∧ Below w.heap.size w wr)) (fun i _ => (quiet - intOf i).toNat)
      case atStart => exact ⟨0, rfl, by omega, hst0⟩
      case round =>
        obtain ⟨k, rfl, hk, hR⟩ := hrel
        clear hst0
        by_cases hlt : (k : Int) < quiet
        · go_wp2_with fail
          refine (silent_any _).mono ?_
          rintro e w6 ⟨rfl, hb⟩
          have hv6 := hid (carry_b hb hR.out.1)
          have hr6 := hid (carry_b hb hR.out.2.1)
          have hb6 := hid (hR.out.2.2.trans (hb.mono hR.out.2.2.size))
          clear hb hR
          go_wp2_with fail
          refine (silent_any _).mono ?_
          rintro e w7 ⟨rfl, hb⟩
          have hv7 := hid (carry_b hb hv6.out)
          have hr7 := hid (carry_b hb hr6.out)
          have hb7 := hid (hb6.out.trans (hb.mono hb6.out.size))
          clear hb hv6 hr6 hb6
          go_wp2_with fail
          refine (silent_any _).mono ?_
          rintro e w8 ⟨rfl, hb⟩
          have hv8 := hid (carry_b hb hv7.out)
          have hr8 := hid (carry_b hb hr7.out)
          have hb8 := hid (hb7.out.trans (hb.mono hb7.out.size))
          clear hb hv7 hr7 hb7
          go_wp2_with fail
          refine (ag_tick w.heap.size w8 hv8.out hs0 hs1 hx (by omega)).mono ?_
          rintro e w9 ⟨rfl, hp⟩
          have hv9 := hid hp.at_
          have hr9 := hid (carry_p hp hr8.out hne')
          have hb9 := hid (hb8.out.trans ((hp.mono hb8.out.size).below (Nat.le_refl _)))
          clear hp hv8 hr8 hb8
          obtain ⟨c0, c1⟩ := rb_cells hr9.out
          obtain ⟨f0, f1⟩ := rb_fz hr9.out
          generalize ho : agO stale (↑k + 1) = o1 at *
          generalize hxx : agX stale x (↑k + 1) = x1 at *
          replace ho := hid ho
          replace hxx := hid hxx
          go_wp2
          go_roundw
          case rel =>
            have e1 : ((k + 1 : Nat) : Int) = (k : Int) + 1 := by simp
            refine ⟨k + 1, by rw [e1], by omega, hid ⟨?_, ?_, ?_⟩⟩
            · rw [e1, heap_setCell_other _ _ _ _ (by simpa using hne'.symm), heap_setCell_other _ _ _ _ (by simpa using hne'.symm)]
              exact hv9.out
            · rw [e1, ho.out, hxx.out, heap_setCell_same _ _ _ _ _ _ (heap_setCell_same _ _ _ _ _ _ hr9.out)]
              rfl
            · exact (hb9.out.setCell (p := ⟨w5.heap.size, 0, none⟩) hm5 _).setCell (p := ⟨w5.heap.size, 1, none⟩) hm5 _
          case measure => simp [intOf]; omega
        · have hkq : (k : Int) = quiet := by omega
          rw [hkq] at hR
          go_wp2_with fail
          refine (ag_ages w.heap.size _ hR.out.1).mono ?_
          rintro e w6 ⟨rfl, hb⟩
          have hv6 := hid (carry_b hb hR.out.1)
          have hr6 := hid (carry_b hb hR.out.2.1)
          have hb6 := hid (hR.out.2.2.trans (hb.mono hR.out.2.2.size))
          clear hb hR
          have q27 := eq27
          have q36 := eq36
          generalize hag : imin quiet 65535 = ag at *
          replace hag := hid hag
          go_wp2_with fail
          refine (splits_any w.heap.size _ w6 hv6.out).mono ?_
          rintro e w7 ⟨rfl, hw7⟩
          rw [hw7]
          clear hw7
          obtain ⟨c0, c1⟩ := rb_cells hr6.out
          replace c0 := lat_fact c0
          replace c1 := lat_fact c1
          by_cases hle : ag ≤ stale
          · have hO : agO stale quiet = true := by rw [agO, hag.out]; exact decide_eq_true hle
            have hX : agX stale x quiet = x := by rw [agX, hag.out]; exact if_pos hle
            rw [hO] at c0
            rw [hX] at c1
            replace hO := hid hO
            replace hX := hid hX
            go_wp2_with fail
            trace_state
            refine wp_region_later_lit (by kernel_rfl) (by kernel_rfl) ?_
            repeat (go_big_quiet_step (first | exact say_later _ | exact awake_later))
            refine wpQuiet_nil ?_
            rintro _ ⟨nq, rfl⟩
            go_wp2
            go_ret
            exact ⟨rfl, hb6.out.trans ((lat_below w6 nq).mono hb6.out.size)⟩
          · have hO : agO stale quiet = false := by rw [agO, hag.out]; exact decide_eq_false hle
            have hX : agX stale x quiet = 0 := by rw [agX, hag.out]; exact if_neg hle
            have hbc := hr6.out
            rw [hO, hX] at hbc
            replace hO := hid hO
            replace hX := hid hX
            replace hbc := hid hbc
            clear c0 c1
            go_wp2_with fail
            refine (awake_any _).mono ?_
            rintro e w8 ⟨rfl, hb⟩
            have hr8 := carry_b hb hbc.out
            obtain ⟨c0, c1⟩ := rb_cells hr8
            have hb8 := hid (hb6.out.trans (hb.mono hb6.out.size))
            replace hr8 := hid hr8
            clear hb
            go_wp2
            go_ret
            exact ⟨rfl, hb8.out⟩
end Go.Proofs.Ythhmamdgpfgpfaa
