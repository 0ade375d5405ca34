/- Plain facts: what lies within a clear rectangle is clear; lanes both ways; corners stand outside. -/
import Derived.Test.YtigcbldbolablaaJ3
namespace Go.Proofs.Ytigcbldbolablaa

theorem clear_sub {a b : Pt} {x y x' y' : Sp} (h : Clear a b x y) (hx : x.lo ≤ x'.lo ∧ x'.hi ≤ x.hi ∧ x'.lo ≤ x'.hi) (hy : y.lo ≤ y'.lo ∧ y'.hi ≤ y.hi ∧ y'.lo ≤ y'.hi) : Clear a b x' y' := by
  have hin : ∀ q ∈ crn x' y', inR q x y := by
    intro q hq
    unfold inR
    simp [crn] at hq
    rcases hq with rfl | rfl | rfl | rfl <;> dsimp only <;> omega
  unfold Clear at *
  rcases h with h | h | h | h | h | h
  · exact .inl (by omega)
  · exact .inr (.inl (by omega))
  · exact .inr (.inr (.inl (by omega)))
  · exact .inr (.inr (.inr (.inl (by omega))))
  · exact .inr (.inr (.inr (.inr (.inl fun q hq => rect_pos (hin q hq) h))))
  · exact .inr (.inr (.inr (.inr (.inr fun q hq => rect_neg (hin q hq) h))))
theorem clear_touch {a b : Pt} {x y : Sp} (ha : okP a) (hb : okP b) (h1 : okP ⟨x.lo, y.lo⟩) (h2 : okP ⟨x.hi, y.hi⟩) (hx : x.lo ≤ x.hi) (hy : y.lo ≤ y.hi) (h : Clear a b x y) : tB a b x y = false := by
  have hc := crn_ok h1 h2
  cases hB : tB a b x y with
  | false => rfl
  | true =>
    exfalso
    unfold tB at hB
    simp only [Bool.and_eq_true, decide_eq_true_eq] at hB
    obtain ⟨⟨_, o1, o2⟩, l1, l2⟩ := hB
    rw [ovr_iff] at o1 o2
    unfold lstF at l1
    rw [lst_le] at l1
    unfold mstF at l2
    rw [ge_iff_le, mst_ge] at l2
    unfold Clear at h
    rcases h with h | h | h | h | h | h
    · omega
    · omega
    · omega
    · omega
    · rcases l1 with g | ⟨q, hq, g⟩
      · omega
      · have := (trn_pos ha hb (hc q hq)).1.2 (h q hq)
        unfold trnP at g
        omega
    · rcases l2 with g | ⟨q, hq, g⟩
      · omega
      · have := (trn_pos ha hb (hc q hq)).2.1.2 (h q hq)
        unfold trnP at g
        omega
theorem tch_of {l : List Pt} {x y : Sp} (h : ∀ i, i < l.length → tB (npt l i) (npt l ((i + 1) % l.length)) x y = false) : tch l x y 0 = false := by
  unfold tch
  rw [List.any_eq_false]
  intro i hi
  have hi' : i < l.length := by simpa using hi
  rw [Nat.zero_add, nxt_mod hi', h i hi']
  simp
/-- WHAT LIES WITHIN what lies within, does. -/
theorem wthn_sub {l : List Pt} {x y x' y' : Sp} (hs : smp l = 0) (h : wthn l x y = true) (hx : x.lo ≤ x'.lo ∧ x'.hi ≤ x.hi ∧ x'.lo ≤ x'.hi) (hy : y.lo ≤ y'.lo ∧ y'.hi ≤ y.hi ∧ y'.lo ≤ y'.hi) : wthn l x' y' = true := by
  obtain ⟨o1, o2, hc, hin⟩ := within_say hs (by omega) (by omega) h
  obtain ⟨h3, _, hb, _, _⟩ := smp_ok hs
  have q1 : okP ⟨x'.lo, y'.lo⟩ := by unfold okP at *; dsimp only at *; omega
  have q2 : okP ⟨x'.hi, y'.hi⟩ := by unfold okP at *; dsimp only at *; omega
  have m : mayL [x'.lo, x'.hi, y'.lo, y'.hi] = true := by
    unfold okP at q1 q2
    dsimp only at q1 q2
    unfold mayL
    simp
    omega
  have t : tch l x' y' 0 = false := tch_of fun i hi => clear_touch (npt_ok hb hi) (npt_ok hb (Nat.mod_lt _ (by omega))) q1 q2 hx.2.2 hy.2.2 (clear_sub (hc i hi) hx hy)
  have v := (hin ⟨x'.hi, y'.hi⟩ (by unfold inR; dsimp only; omega)).2
  unfold wthn
  rw [m, t, v]
  rfl
theorem crs_self (a b : Pt) : Jor.crs a b a = 0 := by unfold Jor.crs; grind
/-- NO CORNER of the polygon lies in what is within it. -/
theorem corner_out {l : List Pt} {x y : Sp} (hs : smp l = 0) (hx : x.lo ≤ x.hi) (hy : y.lo ≤ y.hi) (h : wthn l x y = true) {i : Nat} (hi : i < l.length) : ¬ inR (npt l i) x y := by
  intro hin
  obtain ⟨_, _, hc, _⟩ := within_say hs hx hy h
  have := hc i hi
  have hin' := hin
  unfold inR at hin'
  unfold Clear at this
  rcases this with g | g | g | g | g | g
  · omega
  · omega
  · omega
  · omega
  · have := rect_pos hin g
    rw [crs_self] at this
    omega
  · have := rect_neg hin g
    rw [crs_self] at this
    omega

/-! ### Lanes -/
theorem LnE_swap (f : Fn) (a b : Pt) (r : Int) : LnE f b a r = LnE f a b r := by
  have : mayL [b.x, b.y, a.x, a.y] = mayL [a.x, a.y, b.x, b.y] := by
    rw [Bool.eq_iff_iff]
    unfold mayL
    simp
    omega
  unfold LnE
  rw [this]
theorem lnB_swap (l : List Pt) (a b : Pt) (r : Int) : lnB l b a r = lnB l a b r := by
  unfold lnB spn
  rw [Int.min_comm b.x, Int.min_comm b.y, Int.max_comm b.x, Int.max_comm b.y]
theorem LnV_swap (f : Fn) (a b : Pt) (r : Int) : LnV f b a r = LnV f a b r := by
  unfold LnV
  rw [LnE_swap, lnB_swap]
theorem LnE_ok {f : Fn} {a b : Pt} {r : Int} (h : LnE f a b r = 0) : chk f = 0 ∧ (okP a ∧ okP b) ∧ 0 ≤ r := by
  unfold LnE at h
  split at h
  · rename_i h1; exact absurd h h1
  · rename_i h1
    split at h
    · omega
    · rename_i h2
      split at h
      · omega
      · have h2' : mayL [a.x, a.y, b.x, b.y] = true := by simpa using h2
        refine ⟨Decidable.not_not.1 h1, ?_, by omega⟩
        unfold mayL at h2'
        unfold okP
        simp at h2'
        omega
theorem spn_in {a b r : Int} (ha : -536870912 ≤ a ∧ a ≤ 536870912) (hb : -536870912 ≤ b ∧ b ≤ 536870912) (hr : 0 ≤ r ∧ r ≤ 1073741825) : spn a b r = ⟨min a b - r, max a b + r⟩ := by
  unfold spn
  rw [wrap_in (by omega), wrap_in (by omega)]
theorem lane_room {f : Fn} {a b : Pt} {r : Int} (hE : LnE f a b r = 0) (hV : LnV f a b r = true) :
    (0 ≤ r ∧ r ≤ 536870912) ∧ okP a ∧ okP b ∧ wthn f.poly ⟨min a.x b.x - r, max a.x b.x + r⟩ ⟨min a.y b.y - r, max a.y b.y + r⟩ = true := by
  obtain ⟨hc, ⟨ha, hb⟩, hr⟩ := LnE_ok hE
  have hB : lnB f.poly a b r = true := by
    unfold LnV at hV
    simp at hV
    exact hV.2
  unfold lnB at hB
  have ha' := ha
  have hb' := hb
  unfold okP at ha' hb'
  rw [spn_in (by omega) (by omega) (by omega), spn_in (by omega) (by omega) (by omega)] at hB
  have hB' := hB
  unfold wthn at hB'
  rw [Bool.and_eq_true, Bool.and_eq_true] at hB'
  obtain ⟨o1, o2⟩ := mayL4 hB'.1.1
  unfold okP at o1 o2
  dsimp only at o1 o2
  have hr' : min r 1073741825 = r := by omega
  rw [hr'] at hB o1 o2
  exact ⟨by omega, ha, hb, hB⟩
theorem lane_half {f : Fn} {a b : Pt} {r : Int} (hE : LnE f a b r = 0) (hV : LnV f a b r = true) {s : Int} (hs0 : 0 ≤ s) (hs : s ≤ r) : LnE f a b s = 0 ∧ LnV f a b s = true := by
  obtain ⟨hr, ha, hb, hw⟩ := lane_room hE hV
  obtain ⟨hc, _, _⟩ := LnE_ok hE
  have e : LnE f a b s = 0 := by
    unfold LnE
    rw [if_neg (by simp [hc]), mayL_of_ok ha hb, if_neg (by simp), if_neg (by omega)]
  refine ⟨e, ?_⟩
  unfold LnV
  rw [e]
  have ha' := ha
  have hb' := hb
  unfold okP at ha' hb'
  have : lnB f.poly a b s = true := by
    unfold lnB
    rw [show min s 1073741825 = s by omega, spn_in (by omega) (by omega) (by omega), spn_in (by omega) (by omega) (by omega)]
    exact wthn_sub (chk_smp hc) hw (by dsimp only; omega) (by dsimp only; omega)
  rw [this]
  rfl
theorem lane_side {f : Fn} {a b p : Pt} {r : Int} (hE : LnE f a b r = 0) (hV : LnV f a b r = true) (h1 : min a.x b.x - r ≤ p.x) (h2 : p.x ≤ max a.x b.x + r) (h3 : min a.y b.y - r ≤ p.y) (h4 : p.y ≤ max a.y b.y + r) : sdE f.poly p = 0 ∧ sdV f.poly p = 1 := by
  obtain ⟨hr, ha, hb, hw⟩ := lane_room hE hV
  obtain ⟨hc, _, _⟩ := LnE_ok hE
  obtain ⟨_, _, _, hin⟩ := within_say (chk_smp hc) (by dsimp only; omega) (by dsimp only; omega) hw
  exact hin p (by unfold inR; exact ⟨h1, h2, h3, h4⟩)
end Go.Proofs.Ytigcbldbolablaa
