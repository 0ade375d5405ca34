/- Whether all points fit: what these calls answer. -/
import Derived.Test.YtigcbldbolablaaA1
namespace Go.Proofs.Ytigcbldbolablaa
open Go.RowKit

def badP (p : Pt) : Bool := decide (p.x < -536870912) || decide (p.y < -536870912) || decide (p.x > 536870912) || decide (p.y > 536870912)

set_option maxHeartbeats 400000 in
theorem fits1 (p : Pt) (w : World) :
    Calls Try.prog 87 #[.agg #[.int .i64 p.x, .int .i64 p.y]] w fun e w' => e = .returned (.bool (badP p)) ∧ Below w.heap.size w w' := by
  obtain ⟨x, y⟩ := p
  go_enter Try.func87, Try.ntmps87
  go_wp2
  all_goals
    go_ret
    refine ⟨ret_bool ?_, (Below.refl _ _).alloc (Nat.le_refl _) _⟩
    (try rw [Bool.eq_iff_iff]); simp [badP]; omega

def idxP (l : List Pt) : Int := match l.findIdx? badP with | some i => i | none => -1

def noBad (l : List Pt) (k : Nat) : Prop := ∀ j, j < k → badP (l.getD j z0) = false
theorem noBad_succ {l : List Pt} {k : Nat} (h : noBad l k) (hk : badP (pat l k) = false) : noBad l (k + 1) := by
  intro j hj
  rcases Nat.lt_succ_iff_lt_or_eq.1 hj with h1 | rfl
  · exact h j h1
  · simpa [pat] using hk
theorem idxP_at {l : List Pt} {k : Nat} (hk : k < l.length) (h : noBad l k) (hb : badP (pat l k) = true) : idxP l = k := by
  unfold idxP
  have : l.findIdx? badP = some k := by
    rw [List.findIdx?_eq_some_iff_getElem]
    refine ⟨hk, ?_, fun j hj => ?_⟩
    · simpa [pat, List.getD_eq_getElem?_getD, hk] using hb
    · have := h j hj
      have hj' : j < l.length := by omega
      simpa [List.getD_eq_getElem?_getD, hj'] using this
  rw [this]
theorem idxP_none {l : List Pt} {k : Nat} (hk : l.length ≤ k) (h : noBad l k) : idxP l = -1 := by
  unfold idxP
  have : l.findIdx? badP = none := by
    rw [List.findIdx?_eq_none_iff]
    intro x hx
    obtain ⟨j, hj, rfl⟩ := List.getElem_of_mem hx
    have := h j (by omega)
    simpa [List.getD_eq_getElem?_getD, hj] using this
  rw [this]

set_option maxHeartbeats 800000 in
theorem idx_any (A : Option Addr) (c : Nat) (l : List Pt) (w : World) (hr : Pts w A l) (hm : l.length ≤ 4611686018427387904) :
    Calls Try.prog 95 #[.slice A l.length c, .func (.func 87) #[] #[]] w fun e w' => e = .returned (.int .i64 (idxP l)) ∧ Below w.heap.size w w' := by
  have HR := hid hr
  clear hr
  go_enter Try.func95, Try.ntmps95
  go_wp2
  go_loopw [5, 8] (fun _ i wr => ∃ k : Nat, k ≤ l.length ∧ i = .int .i64 k ∧ Hid (noBad l k) ∧ Hid (Below w.heap.size w wr)) (fun _ i _ => l.length - (intOf i).toNat)
  case atStart => exact ⟨0, Nat.zero_le _, rfl, fun j hj => by omega, Below.refl _ _⟩
  case round =>
    obtain ⟨k, hk, rfl, hno, hb⟩ := hrel
    by_cases hlt : k < l.length
    · obtain ⟨ad, rfl, _, hc1, hc2⟩ := (HR.out.below hb.out).at_ (k : Int) (by omega) (by omega)
      simp only [Int.toNat_natCast] at hc1 hc2
      go_wp2_with fail
      refine (fits1 _ _).mono ?_
      rintro e w1 ⟨rfl, hb1⟩
      have HB := hid (below_then hb.out hb.out.size hb1)
      clear hb hb1
      cases hbad : badP (pat l k) with
      | true =>
        have HX := hid hbad
        clear hbad
        go_wp2
        go_ret
        refine ⟨ret_int ?_, HB.out⟩
        exact (idxP_at hlt hno.out HX.out).symm
      | false =>
        have HX := hid hbad
        clear hbad
        go_wp2
        go_roundw
        case rel => exact ⟨k + 1, by omega, by go_num, noBad_succ hno.out HX.out, HB⟩
        case measure => simp [intOf]; omega
    · go_wp2
      go_ret
      exact ⟨ret_int (idxP_none (by omega) hno.out).symm, hb.out⟩

theorem cont_any (A : Option Addr) (c : Nat) (l : List Pt) (w : World) (hr : Pts w A l) (hm : l.length ≤ 4611686018427387904) :
    Calls Try.prog 86 #[.slice A l.length c, .func (.func 87) #[] #[]] w fun e w' => e = .returned (.bool (l.any badP)) ∧ Below w.heap.size w w' := by
  have HR := hid hr
  clear hr
  have hge : decide (0 ≤ idxP l) = l.any badP := by
    unfold idxP
    cases h : l.findIdx? badP with
    | none => rw [List.findIdx?_eq_none_iff] at h; rw [Bool.eq_iff_iff]; simp; intro x hx; simpa using h x hx
    | some i => rw [List.findIdx?_eq_some_iff_getElem] at h; obtain ⟨hi, hb, _⟩ := h; rw [Bool.eq_iff_iff]; simp; exact ⟨_, List.getElem_mem hi, hb⟩
  have HG := hid hge
  clear hge
  go_enter Try.func86, Try.ntmps86
  go_wp2_with fail
  refine (idx_any _ _ _ _ HR.out hm).mono ?_
  rintro e w1 ⟨rfl, hb1⟩
  go_wp2
  go_ret
  exact ⟨ret_bool HG.out, hb1⟩

theorem fits_any (A : Option Addr) (c : Nat) (l : List Pt) (w : World) (hr : Pts w A l) (hm : l.length ≤ 4611686018427387904) :
    Calls Try.prog 68 #[.slice A l.length c] w fun e w' => e = .returned (.bool (!l.any badP)) ∧ Below w.heap.size w w' := by
  have HR := hid hr
  clear hr
  go_enter Try.func68, Try.ntmps68
  go_wp2_with fail
  refine (cont_any _ _ _ _ HR.out hm).mono ?_
  rintro e w1 ⟨rfl, hb1⟩
  go_wp2
  go_ret
  exact ⟨rfl, hb1⟩
end Go.Proofs.Ytigcbldbolablaa
