/- Plain facts on a rectangle that no side of a polygon touches: all of it lies on one side. -/
import Derived.Test.YtigcbldbolablaaJ1
import Derived.Test.YtigcbldbolablaaA17
namespace Go.Proofs.Ytigcbldbolablaa

def okP (p : Pt) : Prop := -536870912 ≤ p.x ∧ p.x ≤ 536870912 ∧ -536870912 ≤ p.y ∧ p.y ≤ 536870912
theorem badP_iff (p : Pt) : badP p = false ↔ okP p := by
  unfold badP okP
  simp
  omega
theorem mul_bd {u v : Int} (hu : -1073741824 ≤ u ∧ u ≤ 1073741824) (hv : -1073741824 ≤ v ∧ v ≤ 1073741824) : -1152921504606846976 ≤ u * v ∧ u * v ≤ 1152921504606846976 := by
  have h := Nat.mul_le_mul (show u.natAbs ≤ 1073741824 by omega) (show v.natAbs ≤ 1073741824 by omega)
  rw [← Int.natAbs_mul] at h
  omega
theorem wrap_in {z : Int} (h : -9223372036854775808 ≤ z ∧ z < 9223372036854775808) : Go.RowKit.wrap64 z = z := by
  unfold Go.RowKit.wrap64
  omega
theorem crs_ok {a b p : Pt} (ha : okP a) (hb : okP b) (hp : okP p) : crs a.x a.y b.x b.y p.x p.y = Jor.crs a b p := by
  unfold okP at ha hb hp
  have h1 := mul_bd (u := b.x - a.x) (v := p.y - a.y) (by omega) (by omega)
  have h2 := mul_bd (u := b.y - a.y) (v := p.x - a.x) (by omega) (by omega)
  unfold crs Jor.crs
  rw [wrap_in (z := b.x - a.x) (by omega), wrap_in (z := p.y - a.y) (by omega), wrap_in (z := b.y - a.y) (by omega), wrap_in (z := p.x - a.x) (by omega),
    wrap_in (z := (b.x - a.x) * (p.y - a.y)) (by omega), wrap_in (z := (b.y - a.y) * (p.x - a.x)) (by omega), wrap_in (by omega)]
theorem trn_pos {a b p : Pt} (ha : okP a) (hb : okP b) (hp : okP p) : (0 < trn a.x a.y b.x b.y p.x p.y ↔ 0 < Jor.crs a b p) ∧ (trn a.x a.y b.x b.y p.x p.y < 0 ↔ Jor.crs a b p < 0) ∧ (trn a.x a.y b.x b.y p.x p.y = 0 ↔ Jor.crs a b p = 0) := by
  unfold trn
  rw [crs_ok ha hb hp]
  unfold sgn
  split
  · omega
  · split <;> omega
theorem step_con {a b p : Pt} (ha : okP a) (hb : okP b) (hp : okP p) : stepE (a, b) p = Jor.con a b p := by
  obtain ⟨h1, h2, _⟩ := trn_pos ha hb hp
  unfold stepE Jor.con trnE
  simp only [h1, h2]

/-- Is a point in a rectangle? -/
def inR (p : Pt) (x y : Sp) : Prop := x.lo ≤ p.x ∧ p.x ≤ x.hi ∧ y.lo ≤ p.y ∧ p.y ≤ y.hi
theorem crs_aff (a b p : Pt) : Jor.crs a b p = (b.x - a.x) * p.y - (b.y - a.y) * p.x + ((b.y - a.y) * a.x - (b.x - a.x) * a.y) := by unfold Jor.crs; grind
theorem mul_mono {c u v : Int} (hc : 0 ≤ c) (h : u ≤ v) : c * u ≤ c * v := Int.mul_le_mul_of_nonneg_left h hc
theorem mul_anti {c u v : Int} (hc : c ≤ 0) (h : u ≤ v) : c * v ≤ c * u := Int.mul_le_mul_of_nonpos_left hc h
/-- All corners to the left: so is all of it. -/
theorem rect_pos {a b p : Pt} {x y : Sp} (hp : inR p x y) (h : ∀ q ∈ crn x y, 0 < Jor.crs a b q) : 0 < Jor.crs a b p := by
  unfold inR at hp
  have k1 := h ⟨x.lo, y.lo⟩ (by simp [crn])
  have k2 := h ⟨x.lo, y.hi⟩ (by simp [crn])
  have k3 := h ⟨x.hi, y.lo⟩ (by simp [crn])
  have k4 := h ⟨x.hi, y.hi⟩ (by simp [crn])
  rw [crs_aff] at k1 k2 k3 k4 ⊢
  dsimp only at k1 k2 k3 k4
  rcases Int.le_total 0 (b.x - a.x) with g | g <;> rcases Int.le_total 0 (b.y - a.y) with g' | g'
  · have := mul_mono g hp.2.2.1; have := mul_mono g' hp.2.1; omega
  · have := mul_mono g hp.2.2.1; have := mul_anti g' hp.1; omega
  · have := mul_anti g hp.2.2.2; have := mul_mono g' hp.2.1; omega
  · have := mul_anti g hp.2.2.2; have := mul_anti g' hp.1; omega
theorem rect_neg {a b p : Pt} {x y : Sp} (hp : inR p x y) (h : ∀ q ∈ crn x y, Jor.crs a b q < 0) : Jor.crs a b p < 0 := by
  have := rect_pos (a := b) (b := a) hp (fun q hq => by rw [Jor.crs_swap]; have := h q hq; omega)
  rw [Jor.crs_swap] at this
  omega
/-- What the tests on a side and a rectangle say where they do not touch. -/
def Clear (a b : Pt) (x y : Sp) : Prop :=
  (a.x < x.lo ∧ b.x < x.lo) ∨ (x.hi < a.x ∧ x.hi < b.x) ∨ (a.y < y.lo ∧ b.y < y.lo) ∨ (y.hi < a.y ∧ y.hi < b.y) ∨ (∀ q ∈ crn x y, 0 < Jor.crs a b q) ∨ (∀ q ∈ crn x y, Jor.crs a b q < 0)
theorem clear_beside {a b P Q : Pt} {x y : Sp} (h : Clear a b x y) (hP : inR P x y) (hQ : inR Q x y) : Jor.Beside a b P Q := by
  have hP' := hP
  have hQ' := hQ
  unfold inR at hP' hQ'
  rcases h with h | h | h | h | h | h
  · exact .inl (by omega)
  · exact .inr (.inl (by omega))
  · exact .inr (.inr (.inl (by omega)))
  · exact .inr (.inr (.inr (.inl (by omega))))
  · exact .inr (.inr (.inr (.inr (.inl ⟨rect_pos hP h, rect_pos hQ h⟩))))
  · exact .inr (.inr (.inr (.inr (.inr (.inl ⟨rect_neg hP h, rect_neg hQ h⟩)))))
theorem ovr_iff (a b c d : Int) : ovr a b c d = true ↔ max a b ≥ min c d ∧ max c d ≥ min a b := by simp [ovr]
theorem clear_off {a b p : Pt} {x y : Sp} (ha : okP a) (hb : okP b) (hp : okP p) (h : Clear a b x y) (hi : inR p x y) : onE (a, b) p = false := by
  have hi' := hi
  unfold inR at hi'
  cases ho : onE (a, b) p with
  | false => rfl
  | true =>
    exfalso
    unfold onE trnE at ho
    rw [Bool.and_eq_true, Bool.and_eq_true, ovr_iff, ovr_iff, decide_eq_true_eq, (trn_pos ha hb hp).2.2] at ho
    dsimp only at ho
    rcases h with h | h | h | h | h | h
    · omega
    · omega
    · omega
    · omega
    · have := rect_pos hi h; omega
    · have := rect_neg hi h; omega

theorem lst_le {a b : Pt} (l : List Pt) (m : Int) : (l.foldl (fun m p => min m (trnP a b p)) m ≤ 0) ↔ (m ≤ 0 ∨ ∃ p ∈ l, trnP a b p ≤ 0) := by
  induction l generalizing m with
  | nil => simp
  | cons q t ih =>
    rw [List.foldl_cons, ih]
    constructor
    · rintro (h | ⟨p, hp, h⟩)
      · rcases Int.le_total m (trnP a b q) with g | g
        · exact .inl (by omega)
        · exact .inr ⟨q, by simp, by omega⟩
      · exact .inr ⟨p, by simp [hp], h⟩
    · rintro (h | ⟨p, hp, h⟩)
      · exact .inl (by omega)
      · rcases List.mem_cons.1 hp with rfl | hp
        · exact .inl (by omega)
        · exact .inr ⟨p, hp, h⟩
theorem mst_ge {a b : Pt} (l : List Pt) (m : Int) : (0 ≤ l.foldl (fun m p => max m (trnP a b p)) m) ↔ (0 ≤ m ∨ ∃ p ∈ l, 0 ≤ trnP a b p) := by
  induction l generalizing m with
  | nil => simp
  | cons q t ih =>
    rw [List.foldl_cons, ih]
    constructor
    · rintro (h | ⟨p, hp, h⟩)
      · rcases Int.le_total m (trnP a b q) with g | g
        · exact .inr ⟨q, by simp, by omega⟩
        · exact .inl (by omega)
      · exact .inr ⟨p, by simp [hp], h⟩
    · rintro (h | ⟨p, hp, h⟩)
      · exact .inl (by omega)
      · rcases List.mem_cons.1 hp with rfl | hp
        · exact .inl (by omega)
        · exact .inr ⟨p, hp, h⟩
theorem crn_ok {x y : Sp} (h1 : okP ⟨x.lo, y.lo⟩) (h2 : okP ⟨x.hi, y.hi⟩) : ∀ q ∈ crn x y, okP q := by
  intro q hq
  unfold okP at *
  simp [crn] at hq
  rcases hq with rfl | rfl | rfl | rfl <;> dsimp only at * <;> omega
theorem touch_clear {a b : Pt} {x y : Sp} (ha : okP a) (hb : okP b) (h1 : okP ⟨x.lo, y.lo⟩) (h2 : okP ⟨x.hi, y.hi⟩) (hx : x.lo ≤ x.hi) (hy : y.lo ≤ y.hi) (h : tB a b x y = false) : Clear a b x y := by
  have hc := crn_ok h1 h2
  have he : tE a b x y = 0 := by
    unfold tE
    have e1 : (crn x y).any badP = false := by
      rw [List.any_eq_false]
      intro q hq
      rw [(badP_iff q).2 (hc q hq)]
      simp
    rw [(badP_iff a).2 ha, (badP_iff b).2 hb, e1, if_neg (by simp), if_neg (by omega)]
  unfold tB at h
  rw [he] at h
  simp only [decide_true, Bool.true_and] at h
  unfold Clear
  by_cases hox : ovr a.x b.x x.lo x.hi = true
  · by_cases hoy : ovr a.y b.y y.lo y.hi = true
    · rw [hox, hoy] at h
      simp only [Bool.true_and, Bool.and_eq_false_iff, decide_eq_false_iff_not] at h
      rcases h with h | h
      · unfold lstF at h
        rw [lst_le] at h
        refine .inr (.inr (.inr (.inr (.inl (fun q hq => ?_)))))
        have : ¬ trnP a b q ≤ 0 := fun k => h (.inr ⟨q, hq, k⟩)
        exact (trn_pos ha hb (hc q hq)).1.1 (by unfold trnP at this; omega)
      · unfold mstF at h
        rw [ge_iff_le, mst_ge] at h
        refine .inr (.inr (.inr (.inr (.inr (fun q hq => ?_)))))
        have : ¬ 0 ≤ trnP a b q := fun k => h (.inr ⟨q, hq, k⟩)
        exact (trn_pos ha hb (hc q hq)).2.1.1 (by unfold trnP at this; omega)
    · rw [ovr_iff] at hoy
      omega
  · rw [ovr_iff] at hox
    omega

/-! ### The sum over a closed way -/
def sumN (n : Nat) (g : Nat → Int) : Int := ((List.range n).map g).sum
theorem sumN_succ (n : Nat) (g : Nat → Int) : sumN (n + 1) g = sumN n g + g n := by simp [sumN, List.range_succ]
theorem sumN_congr {n : Nat} {f g : Nat → Int} (h : ∀ i, i < n → f i = g i) : sumN n f = sumN n g := by
  unfold sumN
  congr 1
  exact List.map_congr_left fun i hi => h i (List.mem_range.1 hi)
theorem sumN_sub (n : Nat) (f g : Nat → Int) : sumN n f - sumN n g = sumN n (fun i => f i - g i) := by
  induction n with
  | zero => simp [sumN]
  | succ n ih => rw [sumN_succ, sumN_succ, sumN_succ, ← ih]; omega
theorem sumN_tele (n : Nat) (g : Nat → Int) : sumN n (fun i => g (i + 1) - g i) = g n - g 0 := by
  induction n with
  | zero => simp [sumN]
  | succ n ih => rw [sumN_succ, ih]; omega
theorem sumN_ring (n : Nat) (g : Nat → Int) (hn : 0 < n) : sumN n (fun i => g ((i + 1) % n) - g i) = 0 := by
  obtain ⟨m, rfl⟩ : ∃ m, n = m + 1 := ⟨n - 1, by omega⟩
  rw [sumN_succ, Nat.mod_self, sumN_congr (g := fun i => g (i + 1) - g i) (fun i hi => by rw [Nat.mod_eq_of_lt (by omega)]), sumN_tele]
  omega
theorem rnd_sumN (l : List Pt) (p : Pt) : rnd (edges l) p = sumN l.length (fun i => stepE (npt l i, npt l ((i + 1) % l.length)) p) := by
  unfold rnd edges sumN
  rw [List.map_map]
  rfl
theorem nxt_mod {l : List Pt} {i : Nat} (h : i < l.length) : nxt l i = npt l ((i + 1) % l.length) := by
  unfold nxt
  split
  · rw [Nat.mod_eq_of_lt (by assumption)]
  · rw [show i + 1 = l.length by omega, Nat.mod_self]
theorem npt_ok {l : List Pt} (h : l.any badP = false) {i : Nat} (hi : i < l.length) : okP (npt l i) := by
  rw [← badP_iff]
  rw [List.any_eq_false] at h
  have := h (npt l i) (by simp [npt, List.getD_eq_getElem?_getD, hi])
  simpa using this
theorem tch_all {l : List Pt} {x y : Sp} (h : tch l x y 0 = false) {i : Nat} (hi : i < l.length) : tB (npt l i) (npt l ((i + 1) % l.length)) x y = false := by
  unfold tch at h
  rw [List.any_eq_false] at h
  have := h i (List.mem_range.2 (by omega))
  rw [Nat.zero_add, nxt_mod hi] at this
  simpa using this
/-- IN A RECTANGLE THAT NO SIDE TOUCHES every point is gone round as often. -/
theorem rnd_same {l : List Pt} {x y : Sp} {P Q : Pt} (h0 : 0 < l.length) (hb : l.any badP = false) (hc : ∀ i, i < l.length → Clear (npt l i) (npt l ((i + 1) % l.length)) x y) (hP : okP P) (hQ : okP Q) (iP : inR P x y) (iQ : inR Q x y) : rnd (edges l) P = rnd (edges l) Q := by
  rw [rnd_sumN, rnd_sumN]
  have h := sumN_sub l.length (fun i => stepE (npt l i, npt l ((i + 1) % l.length)) Q) (fun i => stepE (npt l i, npt l ((i + 1) % l.length)) P)
  rw [sumN_congr (n := l.length) (f := fun i => stepE (npt l i, npt l ((i + 1) % l.length)) Q - stepE (npt l i, npt l ((i + 1) % l.length)) P) (g := fun i => Jor.phi P Q (npt l ((i + 1) % l.length)) - Jor.phi P Q (npt l i)) (fun i hi => by
    have hm : (i + 1) % l.length < l.length := Nat.mod_lt _ h0
    rw [step_con (npt_ok hb hi) (npt_ok hb hm) hQ, step_con (npt_ok hb hi) (npt_ok hb hm) hP]
    exact Jor.move_any (clear_beside (hc i hi) iP iQ)), sumN_ring l.length (fun i => Jor.phi P Q (npt l i)) h0] at h
  omega
theorem off_all {l : List Pt} {x y : Sp} {P : Pt} (h0 : 0 < l.length) (hb : l.any badP = false) (hc : ∀ i, i < l.length → Clear (npt l i) (npt l ((i + 1) % l.length)) x y) (hP : okP P) (iP : inR P x y) : (edges l).any (fun e => onE e P) = false := by
  rw [List.any_eq_false]
  intro e he
  unfold edges at he
  rw [List.mem_map] at he
  obtain ⟨i, hi, rfl⟩ := he
  have hi' := List.mem_range.1 hi
  rw [clear_off (npt_ok hb hi') (npt_ok hb (Nat.mod_lt _ h0)) hP (hc i hi') iP]
  simp
theorem side_same {l : List Pt} {x y : Sp} {P Q : Pt} (hs : smp l = 0) (hc : ∀ i, i < l.length → Clear (npt l i) (npt l ((i + 1) % l.length)) x y) (hP : okP P) (hQ : okP Q) (iP : inR P x y) (iQ : inR Q x y) : sideP l P = sideP l Q := by
  obtain ⟨h3, _, hb, _, _⟩ := smp_ok hs
  unfold sideP
  rw [off_all (by omega) hb hc hP iP, off_all (by omega) hb hc hQ iQ, rnd_same (by omega) hb hc hP hQ iP iQ]
theorem mayL4 {a b c d : Int} (h : mayL [a, b, c, d] = true) : okP ⟨a, c⟩ ∧ okP ⟨b, d⟩ := by
  unfold mayL at h
  unfold okP
  simp at h
  dsimp only
  omega
/-- What 'within' says: no side touches, and all of it is inside. -/
theorem within_say {l : List Pt} {x y : Sp} (hs : smp l = 0) (hx : x.lo ≤ x.hi) (hy : y.lo ≤ y.hi) (h : wthn l x y = true) :
    okP ⟨x.lo, y.lo⟩ ∧ okP ⟨x.hi, y.hi⟩ ∧ (∀ i, i < l.length → Clear (npt l i) (npt l ((i + 1) % l.length)) x y) ∧ ∀ P, inR P x y → sdE l P = 0 ∧ sdV l P = 1 := by
  unfold wthn at h
  rw [Bool.and_eq_true, Bool.and_eq_true] at h
  obtain ⟨⟨hm, ht⟩, hv⟩ := h
  obtain ⟨o1, o2⟩ := mayL4 hm
  obtain ⟨h3, _, hb, _, _⟩ := smp_ok hs
  have ht' : tch l x y 0 = false := by simpa using ht
  have hc : ∀ i, i < l.length → Clear (npt l i) (npt l ((i + 1) % l.length)) x y := fun i hi =>
    touch_clear (npt_ok hb hi) (npt_ok hb (Nat.mod_lt _ (by omega))) o1 o2 hx hy (tch_all ht' hi)
  refine ⟨o1, o2, hc, fun P iP => ?_⟩
  have oP : okP P := by unfold okP inR at *; dsimp only at *; omega
  have e1 : sdE l P = 0 := by unfold sdE; rw [if_neg (by simp [hs]), (badP_iff P).2 oP]; rfl
  have e2 : sdE l ⟨x.hi, y.hi⟩ = 0 := by unfold sdE; rw [if_neg (by simp [hs]), (badP_iff _).2 o2]; rfl
  refine ⟨e1, ?_⟩
  have hv' : sdV l ⟨x.hi, y.hi⟩ = 1 := by simpa using hv
  unfold sdV at hv' ⊢
  rw [if_pos e2] at hv'
  rw [if_pos e1, side_same hs hc oP o2 iP (by unfold inR; dsimp only; omega)]
  exact hv'
end Go.Proofs.Ytigcbldbolablaa
