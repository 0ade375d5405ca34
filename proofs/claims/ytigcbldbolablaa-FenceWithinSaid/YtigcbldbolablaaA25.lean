/- Are two fences the same? The chapter's small fence. -/
import Derived.Test.YtigcbldbolablaaA24
namespace Go.Proofs.Ytigcbldbolablaa
open Go.RowKit Go.Proofs.YtigcbldbolablaaW.PrintLast
set_option linter.unusedSimpArgs false

theorem take_npt {l : List Pt} {k : Nat} (h : k < l.length) : l.take (k + 1) = l.take k ++ [npt l k] := by
  rw [List.take_succ_eq_append_getElem h]
  simp [npt, List.getD_eq_getElem?_getD, h]
theorem npt_ne {l m : List Pt} {k : Nat} (h : npt l k ≠ npt m k) : l ≠ m := fun e => h (by rw [e])
theorem beq_pt (p q : Pt) : (p.x == q.x && p.y == q.y) = decide (p = q) := by
  obtain ⟨a, b⟩ := p
  obtain ⟨c, d⟩ := q
  rw [Bool.eq_iff_iff]
  simp

set_option maxHeartbeats 2000000 in
theorem samepts_any (A B : Option Addr) (c d : Nat) (l m : List Pt) (w : World) (hp : Pts w A l) (hq : Pts w B m) (hl : l.length ≤ 4611686018427387904) :
    Calls Try.prog 67 #[.slice A l.length c, .slice B m.length d] w fun e w' => e = .returned (.bool (decide (l = m))) ∧ Below w.heap.size w w' := by
  have HP := hid hp
  have HQ := hid hq
  clear hp hq
  by_cases hlen : l.length = m.length
  · have he2 := eq39
    have hlm : m.length ≤ 4611686018427387904 := by omega
    have hln : ((l.length : Int) != (m.length : Int)) = false := by rw [hlen]; simp
    replace hlen := hid hlen
    go_enter Try.func67, Try.ntmps67
    go_wp2
    replace hln := hid hln
    go_loopw [5] (fun i wr => ∃ k : Nat, k ≤ l.length ∧ i = .int .i64 k ∧ Hid (l.take k = m.take k) ∧ Hid (Below w.heap.size w wr)) (fun i _ => l.length - (intOf i).toNat)
    case atStart => exact ⟨0, Nat.zero_le _, rfl, by simp; trivial, Below.refl _ _⟩
    case round =>
      obtain ⟨k, hk, rfl, ht, hb⟩ := hrel
      by_cases hlt : k < l.length
      · have hlt2 : k < m.length := by have := hlen.out; omega
        obtain ⟨a1, rfl, _⟩ := HP.out.some_ (by omega)
        obtain ⟨a2, rfl, _⟩ := HQ.out.some_ (by omega)
        obtain ⟨u0, u1⟩ := (HP.out.below hb.out).nat k hlt
        obtain ⟨v0, v1⟩ := (HQ.out.below hb.out).nat k hlt2
        have hk0 : (0 : Int) ≤ (k : Int) := by omega
        have hk1 : (k : Int) < (l.length : Int) := by omega
        have hk2 : (k : Int) < (m.length : Int) := by omega
        have hbq := hid (beq_pt (npt l k) (npt m k))
        have hst := hid (show npt l k = npt m k → l.take (k + 1) = m.take (k + 1) from fun e => by rw [take_npt hlt, take_npt hlt2, ht.out, e])
        have hne := hid (@npt_ne l m k)
        generalize npt l k = p at *
        generalize npt m k = q at *
        by_cases hpq : p = q
        · have HST := hid (hst.out hpq)
          subst hpq
          go_wp2_with fail
          go_quiet (fail)
          have HB := hid (hb.out.trans ((drewN_below wr.heap.size wr nq).mono hb.out.size))
          go_wp2
          go_roundw
          case rel => exact ⟨k + 1, by omega, by go_num, HST, HB⟩
          case measure => simp [intOf]; omega
        · have HNE := hid (hne.out hpq)
          have hbb : (!p.x == q.x || !p.y == q.y) = true := by
            have := hbq.out
            rw [decide_eq_false hpq] at this
            cases h1 : p.x == q.x <;> cases h2 : p.y == q.y <;> simp_all
          replace hpq := hid hpq
          go_wp2_with fail
          go_quiet (fail)
          have HB := hid (hb.out.trans ((drewN_below wr.heap.size wr nq).mono hb.out.size))
          go_wp2
          go_ret
          exact ⟨ret_bool (decide_eq_false HNE.out).symm, HB.out⟩
      · have HE := hid (show l = m by
          have h := ht.out
          rw [List.take_of_length_le (by omega), List.take_of_length_le (by have := hlen.out; omega)] at h
          exact h)
        go_wp2
        go_ret
        exact ⟨ret_bool (decide_eq_true HE.out).symm, hb.out⟩
  · have HNE := hid (show l ≠ m from fun e => hlen (by rw [e]))
    have hln : ¬ (l.length : Int) = (m.length : Int) := by omega
    have hlb : ((l.length : Int) == (m.length : Int)) = false := beq_eq_false_iff_ne.2 hln
    replace hlen := hid hlen
    replace hln := hid hln
    go_enter Try.func67, Try.ntmps67
    go_wp2
    go_ret
    exact ⟨ret_bool (decide_eq_false HNE.out).symm, Below.refl _ _⟩
theorem samepts_later {w : World} {n : Later w} (A B : Option Addr) (c d : Nat) (l m : List Pt) (hp : Pts w A l) (hq : Pts w B m) (hl : l.length ≤ 4611686018427387904) :
    Calls Try.prog 67 #[.slice A l.length c, .slice B m.length d] (lat w n) fun e w'' => e = .returned (.bool (decide (l = m))) ∧ ∃ k : Later w, w'' = lat w k := later_of (samepts_any A B c d l m _ (hp.below (lat_below w n)) (hq.below (lat_below w n)) hl)

theorem fn_eq (f g : Fn) : decide (f = g) = (decide (f.poly = g.poly) && (decide (f.fl = g.fl) && (decide (f.ce = g.ce) && decide (f.rl = g.rl)))) := by
  obtain ⟨a, b, c, d⟩ := f
  obtain ⟨a', b', c', d'⟩ := g
  rw [Bool.eq_iff_iff]
  simp

set_option maxRecDepth 100000 in
set_option maxHeartbeats 4000000 in
theorem same_any (P Q : FP) (f g : Fn) (w : World) (hf : FRd w P f) (hg : FRd w Q g) :
    Calls Try.prog 31 #[.agg #[.slice P.A f.poly.length P.c, .int .i64 f.fl, .int .i64 f.ce, .slice P.B f.rl.length P.d], .agg #[.slice Q.A g.poly.length Q.c, .int .i64 g.fl, .int .i64 g.ce, .slice Q.B g.rl.length Q.d]] w fun e w' =>
      e = .returned (.bool (decide (f = g))) ∧ Below w.heap.size w w' := by
  obtain ⟨W, hW⟩ : ∃ W, W = (w.alloc (.cells #[.slice P.A f.poly.length P.c, .int .i64 f.fl, .int .i64 f.ce, .slice P.B f.rl.length P.d] 24)).alloc (.cells #[.slice Q.A g.poly.length Q.c, .int .i64 g.fl, .int .i64 g.ce, .slice Q.B g.rl.length Q.d] 24) := ⟨_, rfl⟩
  have HW := hid (show Below w.heap.size w W by rw [hW]; go_grown)
  have u0 : W.cell? ⟨w.heap.size, 0, none⟩ = some (.slice P.A f.poly.length P.c) := by rw [hW]; simp [go_sem]
  have u1 : W.cell? ⟨w.heap.size, 1, none⟩ = some (.int .i64 f.fl) := by rw [hW]; simp [go_sem]
  have u2 : W.cell? ⟨w.heap.size, 2, none⟩ = some (.int .i64 f.ce) := by rw [hW]; simp [go_sem]
  have u3 : W.cell? ⟨w.heap.size, 3, none⟩ = some (.slice P.B f.rl.length P.d) := by rw [hW]; simp [go_sem]
  have v0 : W.cell? ⟨w.heap.size + 1, 0, none⟩ = some (.slice Q.A g.poly.length Q.c) := by rw [hW]; simp [go_sem]
  have v1 : W.cell? ⟨w.heap.size + 1, 1, none⟩ = some (.int .i64 g.fl) := by rw [hW]; simp [go_sem]
  have v2 : W.cell? ⟨w.heap.size + 1, 2, none⟩ = some (.int .i64 g.ce) := by rw [hW]; simp [go_sem]
  have v3 : W.cell? ⟨w.heap.size + 1, 3, none⟩ = some (.slice Q.B g.rl.length Q.d) := by rw [hW]; simp [go_sem]
  have HF := hid hf
  have HG := hid hg
  have HE := hid (fn_eq f g)
  clear hf hg
  go_enter Try.func31, Try.ntmps31
  go_wp2_with fail
  rw [← hW]
  clear hW
  refine (samepts_any _ _ _ _ _ _ W (HF.out.poly.below HW.out) (HG.out.poly.below HW.out) HF.out.pl).mono ?_
  rintro e w1 ⟨rfl, hb1⟩
  have HB1 := hid (below_then HW.out HW.out.size hb1)
  cases hp : decide (f.poly = g.poly) with
  | false =>
    have HR := hid (show false = decide (f = g) by rw [HE.out, hp]; rfl)
    replace hp := hid hp
    clear u0 u1 u2 u3 v0 v1 v2 v3 hb1
    go_wp2
    go_ret
    exact ⟨ret_bool HR.out, HB1.out⟩
  | true =>
    replace HE := hid (show decide (f = g) = (decide (f.fl = g.fl) && (decide (f.ce = g.ce) && decide (f.rl = g.rl))) by rw [HE.out, hp]; rfl)
    replace hp := hid hp
    replace u0 := later_cell hb1 u0
    replace u1 := later_cell hb1 u1
    replace u2 := later_cell hb1 u2
    replace u3 := later_cell hb1 u3
    replace v0 := later_cell hb1 v0
    replace v1 := later_cell hb1 v1
    replace v2 := later_cell hb1 v2
    replace v3 := later_cell hb1 v3
    clear hb1
    by_cases h1 : f.fl = g.fl
    · have h1b : (f.fl == g.fl) = true := by simp [h1]
      by_cases h2 : f.ce = g.ce
      · have h2b : (f.ce == g.ce) = true := by simp [h2]
        replace HE := hid (show decide (f = g) = decide (f.rl = g.rl) by rw [HE.out, decide_eq_true h1, decide_eq_true h2]; rfl)
        replace h1 := hid h1
        replace h2 := hid h2
        go_wp2_with fail
        refine (samepts_any _ _ _ _ _ _ w1 (HF.out.rl.below HB1.out) (HG.out.rl.below HB1.out) HF.out.rll).mono ?_
        rw [← HE.out]
        rintro e w2 ⟨rfl, hb2⟩
        have HB2 := hid (below_then HB1.out HB1.out.size hb2)
        go_wp2
        go_ret
        exact ⟨rfl, HB2.out⟩
      · have h2b : (f.ce == g.ce) = false := by simp [h2]
        have HR := hid (show false = decide (f = g) by rw [HE.out, decide_eq_false h2, Bool.false_and, Bool.and_false])
        replace h1 := hid h1
        replace h2 := hid h2
        go_wp2
        go_ret
        exact ⟨ret_bool HR.out, HB1.out⟩
    · have h1b : (f.fl == g.fl) = false := by simp [h1]
      have HR := hid (show false = decide (f = g) by rw [HE.out, decide_eq_false h1, Bool.false_and])
      replace h1 := hid h1
      go_wp2
      go_ret
      exact ⟨ret_bool HR.out, HB1.out⟩

theorem at_any (x y : Int) (w : World) : Calls Try.prog 36 #[.int .i64 x, .int .i64 y] w fun e w' => e = .returned (.agg #[.int .i64 x, .int .i64 y]) ∧ Below w.heap.size w w' := by
  go_enter Try.func36, Try.ntmps36
  go_wp2
  exact bodyPost_ret (v := .agg #[.int .i64 x, .int .i64 y]) (by simp [results, Try.results36, go_sem]) rfl ⟨rfl, by go_grown⟩
theorem box_any (a b c d e f : Int) (w : World) : Calls Try.prog 45 #[.int .i64 a, .int .i64 b, .int .i64 c, .int .i64 d, .int .i64 e, .int .i64 f] w fun r w' => r = .returned (.agg #[.int .i64 a, .int .i64 b, .int .i64 c, .int .i64 d, .int .i64 e, .int .i64 f]) ∧ Below w.heap.size w w' := by
  go_enter Try.func45, Try.ntmps45
  go_wp2
  exact bodyPost_ret (v := .agg #[.int .i64 a, .int .i64 b, .int .i64 c, .int .i64 d, .int .i64 e, .int .i64 f]) (by simp [results, Try.results45, go_sem]) rfl ⟨rfl, by go_grown⟩
end Go.Proofs.Ytigcbldbolablaa
