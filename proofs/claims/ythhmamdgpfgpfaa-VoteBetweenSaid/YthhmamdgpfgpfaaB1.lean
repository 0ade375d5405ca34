/- The law VoteBetween, walked: a vote lies between the least and the greatest value of the units that speak. -/
import Derived.Test.YthhmamdgpfgpfaaP1
namespace Go.Proofs.Ythhmamdgpfgpfaa
open Go.RowKit
attribute [local go_sem] Oper.semAt_some

def okK (t : Tk) (k : Nat) : List Int := (if 0 < k then (if t.r0.ok then [t.r0.x] else []) else []) ++ ((if 1 < k then (if t.r1.ok then [t.r1.x] else []) else []) ++ (if 2 < k then (if t.r2.ok then [t.r2.x] else []) else []))
theorem okK_le (t : Tk) (k : Nat) : (okK t k).length ≤ 3 := by
  unfold okK
  simp only [List.length_append]
  split <;> split <;> split <;> (try split) <;> (try split) <;> (try split) <;> simp
theorem inc0 {r : Rd} {a v : Int} (ha : 0 ≤ a) : inc 0 (na r a) (nv r v) = if r.ok then [r.x] else [] := by
  unfold inc na nv imin
  cases r.ok with
  | true => simp
  | false =>
    simp only [Bool.false_eq_true, if_false]
    rw [if_neg]
    split <;> omega
theorem vl_zero {s : Vr} (t : Tk) (h : s.ok) (h0 : s.stale = 0) : vlK s t.r0 t.r1 t.r2 3 = okK t 3 := by
  rw [vl3, h0, inc0 h.a0.1, inc0 h.a1.1, inc0 h.a2.1]
  simp [okK]
theorem pick_between {l : List Int} {lo hi : Int} (hne : l.length ≠ 0) (h3 : l.length ≤ 3) (h : ∀ z ∈ l, lo ≤ z ∧ z ≤ hi) : wit (pick l) lo hi = true := by
  by_cases h1 : l.length = 1
  · obtain ⟨x, rfl⟩ := List.length_eq_one_iff.1 h1
    have e : pick [x] = x := by simp [pick, srt]
    rw [e, wit_iff]
    exact h x (by simp)
  · refine pick_in ?_ h3
    have : l.countP (fun x => wit x lo hi) = l.length := List.countP_eq_length.2 (fun z hz => by simpa [wit] using h z hz)
    omega
theorem im_le (x y : Int) : imin x y ≤ x ∧ imin x y ≤ y ∧ x ≤ imax x y ∧ y ≤ imax x y := by
  unfold imin imax
  split <;> split <;> omega

abbrev spb (lo hi : Int) : Obj := .cells #[.int .i64 lo, .int .i64 hi] 43 (0, 0)
theorem spb_cells {w : World} {b : Nat} {lo hi : Int} (h : w.heap[b]? = some (spb lo hi)) : w.cell? ⟨b, 0, none⟩ = some (.int .i64 lo) ∧ w.cell? ⟨b, 1, none⟩ = some (.int .i64 hi) ∧ w.frozen? ⟨b, 0, none⟩ = false ∧ w.frozen? ⟨b, 1, none⟩ = false := by
  simp [World.cell?, World.frozen?, h]
theorem spb_set {w : World} {b : Nat} {lo hi : Int} (x y : Int) (h : w.heap[b]? = some (spb lo hi)) : ((w.setCell ⟨b, 0, none⟩ (.int .i64 x)).setCell ⟨b, 1, none⟩ (.int .i64 y)).heap[b]? = some (spb x y) := by
  rw [heap_setCell_same _ _ _ _ _ _ (heap_setCell_same _ _ _ _ _ _ h)]
  rfl
theorem set_other {w : World} {b g : Nat} {o : Obj} (x y : Value) (h : w.heap[b]? = some o) (hn : b ≠ g) : ((w.setCell ⟨g, 0, none⟩ x).setCell ⟨g, 1, none⟩ y).heap[b]? = some o := by
  rw [heap_setCell_other _ _ _ _ hn, heap_setCell_other _ _ _ _ hn]
  exact h
theorem set_below {B : Nat} {w w' : World} {g : Nat} (x y : Value) (h : Below B w w') (hg : B ≤ g) : Below B w ((w'.setCell ⟨g, 0, none⟩ x).setCell ⟨g, 1, none⟩ y) :=
  (h.setCell (p := ⟨g, 0, none⟩) hg _).setCell (p := ⟨g, 1, none⟩) hg _

set_option maxRecDepth 100000 in
set_option maxHeartbeats 8000000 in
theorem between_walk (A : Option Addr) (n c : Nat) (ts : List Tk) (w : World) (hts : Tks w A ts) (hn : ts.length = n) (hmax : n ≤ 9223372036854775807) :
    Calls Try.prog 6 #[.slice A n c] w fun e w' => e = .returned (.bool true) ∧ Below w.heap.size w w' := by
  replace hts := hid hts
  go_enter Try.func6, Try.ntmps6
  go_wp2_with fail
  refine (new_yes 0 0 _ (by decide) (by decide) (by decide) (by decide)).mono ?_
  rintro e w1 ⟨rfl, hw1⟩
  have hv1 : w1.heap[w.heap.size]? = some (vb (new0 0 0)) := by rw [hw1]; exact heap_alloc_new w _
  have hb1 : Below w.heap.size w w1 := by rw [hw1]; go_grown
  clear hw1
  replace hv1 := hid hv1
  replace hb1 := hid hb1
  go_wp2_with fail
  go_loopw [5] (fun v5 wr => ∃ (i : Nat) (s : Vr), v5 = .int .i64 i ∧ i ≤ n ∧ Hid (s.ok ∧ s.stale = 0) ∧ Hid (wr.heap[w.heap.size]? = some (vb s)) ∧ Hid (Below w.heap.size w wr)) (fun v _ => n - (intOf v).toNat)
  case atStart => exact ⟨0, _, rfl, by omega, hid ⟨new0_ok (by omega) (by omega) (by omega), rfl⟩, hv1, hb1⟩
  case round =>
    obtain ⟨i, s, rfl, hi, hok, hv, hb⟩ := hrel
    obtain ⟨wo, rfl⟩ : ∃ wo, wo = wr := ⟨_, rfl⟩
    clear hv1 hb1
    by_cases hlt : i < n
    · obtain ⟨t, ht⟩ : ∃ t, ts[i]? = some t := ⟨ts[i]'(by omega), List.getElem?_eq_getElem (by omega)⟩
      obtain ⟨bb, off, rfl, hbb, twf, t0, t1, t2, t3, t4, t5⟩ := hts.out i t ht
      replace ht := hid ht
      replace twf := hid twf
      have hzr := hb.out.size
      have hNr := heap_lt hv.out
      go_wp2_with fail
      go_loopw [6, 8] (fun v6 v8 wq => ∃ (k : Nat) (lo hi : Int), v8 = .int .i64 k ∧ k ≤ 3 ∧ v6 = .int .i64 (okK t k).length ∧ Hid (wq.heap[wo.heap.size]? = some (spb lo hi)) ∧ Hid (∀ z ∈ okK t k, lo ≤ z ∧ z ≤ hi) ∧ Hid (wq.heap[w.heap.size]? = some (vb s)) ∧ Hid (Below w.heap.size w wq)) (fun _ v _ => 3 - (intOf v).toNat)
      case atStart => exact ⟨0, 0, 0, rfl, by omega, rfl, hid (heap_alloc_new _ _), hid (by simp [okK]), hid (carry_a hv.out), hid (hb.out.alloc hb.out.size _)⟩
      case round =>
        obtain ⟨k, lo, hi, rfl, hk, rfl, hm, hin, hv, hb⟩ := hrel
        have y0 := (hb.out.cell (World.block_lt_of_cell? w _ t0)).trans t0
        have y1 := (hb.out.cell (World.block_lt_of_cell? w _ t1)).trans t1
        have y2 := (hb.out.cell (World.block_lt_of_cell? w _ t2)).trans t2
        have y3 := (hb.out.cell (World.block_lt_of_cell? w _ t3)).trans t3
        have y4 := (hb.out.cell (World.block_lt_of_cell? w _ t4)).trans t4
        have y5 := (hb.out.cell (World.block_lt_of_cell? w _ t5)).trans t5
        obtain ⟨m0, m1, mf0, mf1⟩ := spb_cells hm.out
        have hmlt := heap_lt hm.out
        have hne : w.heap.size ≠ wo.heap.size := by omega
        have : k = 3 ∨ k = 0 ∨ k = 1 ∨ k = 2 := by omega
        rcases this with rfl | rfl | rfl | rfl
        · have hvz := vl_zero t hok.out.1 hok.out.2
          have hstep := step_ok w.heap.size s t.r0 t.r1 t.r2 wr hv.out hok.out.1 twf.out.1 twf.out.2.1 twf.out.2.2
          rw [hvz] at hstep
          have hL := okK_le t 3
          have hfin : (fin s t.r0 t.r1 t.r2).ok ∧ (fin s t.r0 t.r1 t.r2).stale = 0 := ⟨fin_ok hok.out.1 twf.out.1 twf.out.2.1 twf.out.2.2, by rw [fin_eq]; exact hok.out.2⟩
          replace hfin := hid hfin
          replace hvz := hid hvz
          by_cases hz : (okK t 3).length = 0
          · have hz0 : okK t 3 = [] := List.length_eq_zero_iff.1 hz
            rw [hz0] at hstep
            have hs2 : Calls Try.prog 14 #[.pointer (some ⟨w.heap.size, 0, none⟩), ub t.r0 t.r1 t.r2] wr fun e w' => e = .returned (.agg #[.bool false, .int .i64 0]) ∧ Put wr.heap.size wr w' w.heap.size (vb (fin s t.r0 t.r1 t.r2)) := hstep
            replace hs2 := hid hs2
            clear hstep hL
            rw [hz]
            replace hz := hid hz
            replace hz0 := hid hz0
            go_wp2_with fail
            refine hs2.out.mono ?_
            rintro e w4 ⟨rfl, hp⟩
            have hv4 := hid hp.at_
            have hm4 := hid (carry_p hp hm.out hne.symm)
            have hb4 := hid (hb.out.trans ((hp.mono hb.out.size).below (Nat.le_refl _)))
            have hlt4 := heap_lt hm4.out
            obtain ⟨M0, M1, _, _⟩ := spb_cells hm4.out
            clear hp
            go_wp2
            go_roundw
            case rel => exact ⟨i + 1, _, by simp, by omega, hfin, hid (carry_a hv4.out), hid (hb4.out.alloc hb4.out.size _)⟩
            case measure => simp [intOf]; omega
          · have hw := pick_between hz hL hin.out
            have hs2 : Calls Try.prog 14 #[.pointer (some ⟨w.heap.size, 0, none⟩), ub t.r0 t.r1 t.r2] wr fun e w' => e = .returned (.agg #[.bool true, .int .i64 (pick (okK t 3))]) ∧ Put wr.heap.size wr w' w.heap.size (vb (fin s t.r0 t.r1 t.r2)) := by
              rw [decide_eq_true hz] at hstep
              exact hstep
            replace hs2 := hid hs2
            clear hstep
            have hz1 : 0 < ((okK t 3).length : Int) := by omega
            generalize pick (okK t 3) = x at *
            generalize (okK t 3).length = nL at *
            replace hw := hid hw
            go_wp2_with fail
            refine hs2.out.mono ?_
            rintro e w4 ⟨rfl, hp⟩
            have hv4 := hid hp.at_
            have hm4 := hid (carry_p hp hm.out hne.symm)
            have hb4 := hid (hb.out.trans ((hp.mono hb.out.size).below (Nat.le_refl _)))
            have hlt4 := heap_lt hm4.out
            obtain ⟨M0, M1, _, _⟩ := spb_cells hm4.out
            clear hp
            go_wp2_with fail
            refine (within_any x lo hi _).mono ?_
            rw [hw.out]
            rintro e w5 ⟨rfl, hb5⟩
            have hv5 := hid (carry_b hb5 (carry_a hv4.out))
            obtain ⟨k0, k1⟩ := rb_cells (carry_b hb5 (heap_alloc_new w4 (rb true x)))
            have hB5 := hid ((hb4.out.alloc hb4.out.size _).trans (hb5.mono (by have := hb4.out.size; simp; omega)))
            clear hb5
            go_wp2
            go_roundw
            case rel => exact ⟨i + 1, _, by simp, by omega, hfin, hv5, hB5⟩
            case measure => simp [intOf]; omega
        · cases ho : t.r0.ok with
          | false =>
            have hK : okK t 1 = okK t 0 := by simp [okK, ho]
            replace hK := hid hK
            rw [ho] at y0
            replace ho := hid ho
            go_wp2
            go_roundw
            case rel => exact ⟨1, lo, hi, rfl, by omega, by rw [hK.out], hm, by rw [hK.out]; exact hin, hv, hb⟩
            case measure => simp [intOf]
          | true =>
            have hK : okK t 1 = okK t 0 ++ [t.r0.x] := by simp [okK, ho]
            have hKl := okK_le t 0
            replace hK := hid hK
            rw [ho] at y0
            replace ho := hid ho
            by_cases hz : (okK t 0).length = 0
            · have hz0 : okK t 0 = [] := List.length_eq_zero_iff.1 hz
              rw [hz]
              replace hz := hid hz
              replace hz0 := hid hz0
              clear hKl
              go_wp2
              go_roundw
              case rel =>
                refine ⟨1, imin t.r0.x t.r0.x, imax t.r0.x t.r0.x, rfl, by omega, by rw [hK.out, hz0.out]; rfl, hid (spb_set _ _ (spb_set _ _ hm.out)), hid ?_, hid (set_other _ _ (set_other _ _ hv.out hne) hne), hid (set_below _ _ (set_below _ _ hb.out hzr) hzr)⟩
                rw [hK.out, hz0.out]
                intro z hz
                simp at hz
                subst hz
                have := im_le t.r0.x t.r0.x
                omega
              case measure => simp [intOf]
            · exact absurd (by simp [okK]) hz
        · cases ho : t.r1.ok with
          | false =>
            have hK : okK t 2 = okK t 1 := by simp [okK, ho]
            replace hK := hid hK
            rw [ho] at y2
            replace ho := hid ho
            go_wp2
            go_roundw
            case rel => exact ⟨2, lo, hi, rfl, by omega, by rw [hK.out], hm, by rw [hK.out]; exact hin, hv, hb⟩
            case measure => simp [intOf]
          | true =>
            have hK : okK t 2 = okK t 1 ++ [t.r1.x] := by simp [okK, ho]
            have hKl := okK_le t 1
            replace hK := hid hK
            rw [ho] at y2
            replace ho := hid ho
            by_cases hz : (okK t 1).length = 0
            · have hz0 : okK t 1 = [] := List.length_eq_zero_iff.1 hz
              rw [hz]
              replace hz := hid hz
              replace hz0 := hid hz0
              clear hKl
              go_wp2
              go_roundw
              case rel =>
                refine ⟨2, imin t.r1.x t.r1.x, imax t.r1.x t.r1.x, rfl, by omega, by rw [hK.out, hz0.out]; rfl, hid (spb_set _ _ (spb_set _ _ hm.out)), hid ?_, hid (set_other _ _ (set_other _ _ hv.out hne) hne), hid (set_below _ _ (set_below _ _ hb.out hzr) hzr)⟩
                rw [hK.out, hz0.out]
                intro z hz
                simp at hz
                subst hz
                have := im_le t.r1.x t.r1.x
                omega
              case measure => simp [intOf]
            · have hz1 : ¬ (((okK t 1).length : Int) = 0) := by omega
              replace hz := hid hz
              go_wp2
              go_roundw
              case rel =>
                refine ⟨2, imin lo t.r1.x, imax hi t.r1.x, rfl, by omega, by rw [hK.out]; simp, hid (spb_set _ _ hm.out), hid ?_, hid (set_other _ _ hv.out hne), hid (set_below _ _ hb.out hzr)⟩
                rw [hK.out]
                intro z hz
                have h1 := im_le lo t.r1.x
                have h2 := im_le hi t.r1.x
                rcases List.mem_append.1 hz with hz | hz
                · have := hin.out z hz
                  omega
                · simp at hz
                  subst hz
                  omega
              case measure => simp [intOf]
        · cases ho : t.r2.ok with
          | false =>
            have hK : okK t 3 = okK t 2 := by simp [okK, ho]
            replace hK := hid hK
            rw [ho] at y4
            replace ho := hid ho
            go_wp2
            go_roundw
            case rel => exact ⟨3, lo, hi, rfl, by omega, by rw [hK.out], hm, by rw [hK.out]; exact hin, hv, hb⟩
            case measure => simp [intOf]
          | true =>
            have hK : okK t 3 = okK t 2 ++ [t.r2.x] := by simp [okK, ho]
            have hKl := okK_le t 2
            replace hK := hid hK
            rw [ho] at y4
            replace ho := hid ho
            by_cases hz : (okK t 2).length = 0
            · have hz0 : okK t 2 = [] := List.length_eq_zero_iff.1 hz
              rw [hz]
              replace hz := hid hz
              replace hz0 := hid hz0
              clear hKl
              go_wp2
              go_roundw
              case rel =>
                refine ⟨3, imin t.r2.x t.r2.x, imax t.r2.x t.r2.x, rfl, by omega, by rw [hK.out, hz0.out]; rfl, hid (spb_set _ _ (spb_set _ _ hm.out)), hid ?_, hid (set_other _ _ (set_other _ _ hv.out hne) hne), hid (set_below _ _ (set_below _ _ hb.out hzr) hzr)⟩
                rw [hK.out, hz0.out]
                intro z hz
                simp at hz
                subst hz
                have := im_le t.r2.x t.r2.x
                omega
              case measure => simp [intOf]
            · have hz1 : ¬ (((okK t 2).length : Int) = 0) := by omega
              replace hz := hid hz
              go_wp2
              go_roundw
              case rel =>
                refine ⟨3, imin lo t.r2.x, imax hi t.r2.x, rfl, by omega, by rw [hK.out]; simp, hid (spb_set _ _ hm.out), hid ?_, hid (set_other _ _ hv.out hne), hid (set_below _ _ hb.out hzr)⟩
                rw [hK.out]
                intro z hz
                have h1 := im_le lo t.r2.x
                have h2 := im_le hi t.r2.x
                rcases List.mem_append.1 hz with hz | hz
                · have := hin.out z hz
                  omega
                · simp at hz
                  subst hz
                  omega
              case measure => simp [intOf]
    · have hin : i = n := by omega
      go_wp2_with fail
      refine (awake_any _).mono ?_
      rintro e w2 ⟨rfl, hb2⟩
      have hb2 := hid (hb.out.trans (hb2.mono hb.out.size))
      go_wp2
      go_ret
      exact ⟨rfl, hb2.out⟩
end Go.Proofs.Ythhmamdgpfgpfaa
