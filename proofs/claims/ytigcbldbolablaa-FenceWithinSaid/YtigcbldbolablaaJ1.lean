/- Plain facts on points, segments and their crosses: whole numbers alone. -/
import Derived.Test.YtigcbldbolablaaA0
namespace Go.Proofs.Ytigcbldbolablaa.Jor

def crs (a b p : Pt) : Int := (b.x - a.x) * (p.y - a.y) - (b.y - a.y) * (p.x - a.x)
/-- What a side adds to how often the polygon goes round p. -/
def con (a b p : Pt) : Int := if a.y ≤ p.y ∧ p.y < b.y ∧ 0 < crs a b p then 1 else if b.y ≤ p.y ∧ p.y < a.y ∧ crs a b p < 0 then -1 else 0
/-- What a corner v changes where p goes from P to Q. -/
def phi (P Q v : Pt) : Int := if P.y < v.y ∧ v.y ≤ Q.y ∧ crs P Q v < 0 then -1 else if Q.y < v.y ∧ v.y ≤ P.y ∧ 0 < crs P Q v then 1 else 0
/-- Something parts two segments. -/
def Beside (a b P Q : Pt) : Prop :=
  (a.x < P.x ∧ a.x < Q.x ∧ b.x < P.x ∧ b.x < Q.x) ∨ (P.x < a.x ∧ Q.x < a.x ∧ P.x < b.x ∧ Q.x < b.x) ∨
  (a.y < P.y ∧ a.y < Q.y ∧ b.y < P.y ∧ b.y < Q.y) ∨ (P.y < a.y ∧ Q.y < a.y ∧ P.y < b.y ∧ Q.y < b.y) ∨
  (0 < crs a b P ∧ 0 < crs a b Q) ∨ (crs a b P < 0 ∧ crs a b Q < 0) ∨ (0 < crs P Q a ∧ 0 < crs P Q b) ∨ (crs P Q a < 0 ∧ crs P Q b < 0)

theorem crs_swap (a b p : Pt) : crs b a p = - crs a b p := by unfold crs; grind
theorem crs_turn (a b p : Pt) : crs a b p = crs b p a := by unfold crs; grind
theorem con_swap (a b p : Pt) : con b a p = - con a b p := by
  have h := crs_swap a b p
  unfold con
  rw [h]
  split <;> split <;> (try split) <;> (try split) <;> omega
theorem phi_swap (P Q v : Pt) : phi Q P v = - phi P Q v := by
  have h := crs_swap P Q v
  unfold phi
  rw [h]
  split <;> split <;> (try split) <;> (try split) <;> omega
theorem crs_i1 (a b P Q : Pt) : (Q.y - P.y) * crs a b P = crs P Q b * (a.y - P.y) - crs P Q a * (b.y - P.y) := by unfold crs; grind
theorem crs_i2 (a b P Q : Pt) : (Q.y - P.y) * crs a b Q = crs P Q b * (a.y - Q.y) - crs P Q a * (b.y - Q.y) := by unfold crs; grind
theorem crs_i3 (a b P Q : Pt) : (b.y - a.y) * crs P Q a = crs a b Q * (P.y - a.y) - crs a b P * (Q.y - a.y) := by unfold crs; grind
theorem crs_i4 (a b P Q : Pt) : (b.y - a.y) * crs P Q b = crs a b Q * (P.y - b.y) - crs a b P * (Q.y - b.y) := by unfold crs; grind
theorem crs_left (a b p : Pt) : crs a b p = (b.x - p.x) * (p.y - a.y) + (a.x - p.x) * (b.y - p.y) := by unfold crs; grind

theorem mul_sign {x y : Int} (h : 0 < x) : (0 < x * y ↔ 0 < y) ∧ (x * y < 0 ↔ y < 0) := by
  refine ⟨⟨fun k => ?_, fun k => Int.mul_pos h k⟩, ⟨fun k => ?_, fun k => Int.mul_neg_of_pos_of_neg h k⟩⟩
  · rcases Int.lt_trichotomy y 0 with g | g | g
    · have := Int.mul_neg_of_pos_of_neg h g; omega
    · subst g; simp at k
    · exact g
  · rcases Int.lt_trichotomy y 0 with g | g | g
    · exact g
    · subst g; simp at k
    · have := Int.mul_pos h g; omega

/-- Two corners on one side: P, Q to the left of the line. -/
theorem move_ab {a b P Q : Pt} (hy : P.y ≤ Q.y) (hA : 0 < crs a b P) (hB : 0 < crs a b Q) : con a b Q - con a b P = phi P Q b - phi P Q a := by
  have h3 := crs_i3 a b P Q
  have h4 := crs_i4 a b P Q
  -- signs of what stands on the right
  have s1 : P.y < a.y → a.y ≤ Q.y → (b.y - a.y) * crs P Q a < 0 := fun g1 g2 => by
    have e1 : crs a b Q * (P.y - a.y) < 0 := Int.mul_neg_of_pos_of_neg hB (by omega)
    have e2 : 0 ≤ crs a b P * (Q.y - a.y) := Int.mul_nonneg (by omega) (by omega)
    omega
  have s2 : P.y < b.y → b.y ≤ Q.y → (b.y - a.y) * crs P Q b < 0 := fun g1 g2 => by
    have e1 : crs a b Q * (P.y - b.y) < 0 := Int.mul_neg_of_pos_of_neg hB (by omega)
    have e2 : 0 ≤ crs a b P * (Q.y - b.y) := Int.mul_nonneg (by omega) (by omega)
    omega
  rcases Int.lt_trichotomy a.y b.y with g | g | g
  · have k1 := (mul_sign (x := b.y - a.y) (y := crs P Q a) (by omega)).2
    have k2 := (mul_sign (x := b.y - a.y) (y := crs P Q b) (by omega)).2
    rw [k1] at s1
    rw [k2] at s2
    unfold con phi
    split <;> split <;> (try split) <;> (try split) <;> (try split) <;> (try split) <;> omega
  · have e : b.y - a.y = 0 := by omega
    rw [e] at s1 s2
    simp at s1 s2
    unfold con phi
    split <;> split <;> (try split) <;> (try split) <;> (try split) <;> (try split) <;> omega
  · have e : ∀ z, (b.y - a.y) * z = - ((a.y - b.y) * z) := fun z => by grind
    have k1 := (mul_sign (x := a.y - b.y) (y := crs P Q a) (by omega)).1
    have k2 := (mul_sign (x := a.y - b.y) (y := crs P Q b) (by omega)).1
    rw [e] at s1 s2
    have s1' : P.y < a.y → a.y ≤ Q.y → 0 < crs P Q a := fun h1 h2 => k1.1 (by have := s1 h1 h2; omega)
    have s2' : P.y < b.y → b.y ≤ Q.y → 0 < crs P Q b := fun h1 h2 => k2.1 (by have := s2 h1 h2; omega)
    clear s1 s2 e k1 k2 h3 h4
    unfold con phi
    split <;> split <;> (try split) <;> (try split) <;> (try split) <;> (try split) <;> omega

theorem move_pq {a b P Q : Pt} (hy : P.y ≤ Q.y) (hA : 0 < crs P Q a) (hB : 0 < crs P Q b) : con a b Q - con a b P = phi P Q b - phi P Q a := by
  have h1 := crs_i1 a b P Q
  have h2 := crs_i2 a b P Q
  have s1 : a.y ≤ P.y → P.y < b.y → (Q.y - P.y) * crs a b P < 0 := fun g1 g2 => by
    have e1 : 0 < crs P Q a * (b.y - P.y) := Int.mul_pos hA (by omega)
    have e2 : crs P Q b * (a.y - P.y) ≤ 0 := Int.mul_nonpos_of_nonneg_of_nonpos (by omega) (by omega)
    omega
  have s2 : b.y ≤ P.y → P.y < a.y → 0 < (Q.y - P.y) * crs a b P := fun g1 g2 => by
    have e1 : 0 < crs P Q b * (a.y - P.y) := Int.mul_pos hB (by omega)
    have e2 : crs P Q a * (b.y - P.y) ≤ 0 := Int.mul_nonpos_of_nonneg_of_nonpos (by omega) (by omega)
    omega
  have s3 : a.y ≤ Q.y → Q.y < b.y → (Q.y - P.y) * crs a b Q < 0 := fun g1 g2 => by
    have e1 : 0 < crs P Q a * (b.y - Q.y) := Int.mul_pos hA (by omega)
    have e2 : crs P Q b * (a.y - Q.y) ≤ 0 := Int.mul_nonpos_of_nonneg_of_nonpos (by omega) (by omega)
    omega
  have s4 : b.y ≤ Q.y → Q.y < a.y → 0 < (Q.y - P.y) * crs a b Q := fun g1 g2 => by
    have e1 : 0 < crs P Q b * (a.y - Q.y) := Int.mul_pos hB (by omega)
    have e2 : crs P Q a * (b.y - Q.y) ≤ 0 := Int.mul_nonpos_of_nonneg_of_nonpos (by omega) (by omega)
    omega
  clear h1 h2
  by_cases g : P.y = Q.y
  · have e : Q.y - P.y = 0 := by omega
    rw [e] at s1 s2 s3 s4
    simp at s1 s2 s3 s4
    unfold con phi
    split <;> split <;> (try split) <;> (try split) <;> (try split) <;> (try split) <;> omega
  · have k1 := mul_sign (x := Q.y - P.y) (y := crs a b P) (by omega)
    have k2 := mul_sign (x := Q.y - P.y) (y := crs a b Q) (by omega)
    rw [k1.2] at s1
    rw [k1.1] at s2
    rw [k2.2] at s3
    rw [k2.1] at s4
    clear k1 k2
    unfold con phi
    split <;> split <;> (try split) <;> (try split) <;> (try split) <;> (try split) <;> omega
theorem move_pq' {a b P Q : Pt} (hy : P.y ≤ Q.y) (hA : crs P Q a < 0) (hB : crs P Q b < 0) : con a b Q - con a b P = phi P Q b - phi P Q a := by
  have h1 := crs_i1 a b P Q
  have h2 := crs_i2 a b P Q
  have s1 : a.y ≤ P.y → P.y < b.y → 0 < (Q.y - P.y) * crs a b P := fun g1 g2 => by
    have e1 : crs P Q a * (b.y - P.y) < 0 := Int.mul_neg_of_neg_of_pos hA (by omega)
    have e2 : 0 ≤ crs P Q b * (a.y - P.y) := Int.mul_nonneg_of_nonpos_of_nonpos (by omega) (by omega)
    omega
  have s2 : b.y ≤ P.y → P.y < a.y → (Q.y - P.y) * crs a b P < 0 := fun g1 g2 => by
    have e1 : crs P Q b * (a.y - P.y) < 0 := Int.mul_neg_of_neg_of_pos hB (by omega)
    have e2 : 0 ≤ crs P Q a * (b.y - P.y) := Int.mul_nonneg_of_nonpos_of_nonpos (by omega) (by omega)
    omega
  have s3 : a.y ≤ Q.y → Q.y < b.y → 0 < (Q.y - P.y) * crs a b Q := fun g1 g2 => by
    have e1 : crs P Q a * (b.y - Q.y) < 0 := Int.mul_neg_of_neg_of_pos hA (by omega)
    have e2 : 0 ≤ crs P Q b * (a.y - Q.y) := Int.mul_nonneg_of_nonpos_of_nonpos (by omega) (by omega)
    omega
  have s4 : b.y ≤ Q.y → Q.y < a.y → (Q.y - P.y) * crs a b Q < 0 := fun g1 g2 => by
    have e1 : crs P Q b * (a.y - Q.y) < 0 := Int.mul_neg_of_neg_of_pos hB (by omega)
    have e2 : 0 ≤ crs P Q a * (b.y - Q.y) := Int.mul_nonneg_of_nonpos_of_nonpos (by omega) (by omega)
    omega
  clear h1 h2
  by_cases g : P.y = Q.y
  · have e : Q.y - P.y = 0 := by omega
    rw [e] at s1 s2 s3 s4
    simp at s1 s2 s3 s4
    unfold con phi
    split <;> split <;> (try split) <;> (try split) <;> (try split) <;> (try split) <;> omega
  · have k1 := mul_sign (x := Q.y - P.y) (y := crs a b P) (by omega)
    have k2 := mul_sign (x := Q.y - P.y) (y := crs a b Q) (by omega)
    rw [k1.1] at s1
    rw [k1.2] at s2
    rw [k2.1] at s3
    rw [k2.2] at s4
    clear k1 k2
    unfold con phi
    split <;> split <;> (try split) <;> (try split) <;> (try split) <;> (try split) <;> omega
/-- Left of both: to the right of what runs up. -/
theorem crs_x_lt {P Q v : Pt} (h1 : v.x < P.x) (h2 : v.x < Q.x) (h3 : P.y ≤ v.y) (h4 : v.y ≤ Q.y) (h5 : P.y < Q.y) : 0 < crs P Q v := by
  rw [crs_left]
  have e1 : 0 ≤ (Q.x - v.x) * (v.y - P.y) := Int.mul_nonneg (by omega) (by omega)
  have e2 : 0 ≤ (P.x - v.x) * (Q.y - v.y) := Int.mul_nonneg (by omega) (by omega)
  by_cases g : P.y < v.y
  · have : 0 < (Q.x - v.x) * (v.y - P.y) := Int.mul_pos (by omega) (by omega)
    omega
  · have : 0 < (P.x - v.x) * (Q.y - v.y) := Int.mul_pos (by omega) (by omega)
    omega
theorem crs_x_gt {P Q v : Pt} (h1 : P.x < v.x) (h2 : Q.x < v.x) (h3 : P.y ≤ v.y) (h4 : v.y ≤ Q.y) (h5 : P.y < Q.y) : crs P Q v < 0 := by
  rw [crs_left]
  have e1 : (Q.x - v.x) * (v.y - P.y) ≤ 0 := Int.mul_nonpos_of_nonpos_of_nonneg (by omega) (by omega)
  have e2 : (P.x - v.x) * (Q.y - v.y) ≤ 0 := Int.mul_nonpos_of_nonpos_of_nonneg (by omega) (by omega)
  by_cases g : P.y < v.y
  · have : (Q.x - v.x) * (v.y - P.y) < 0 := Int.mul_neg_of_neg_of_pos (by omega) (by omega)
    omega
  · have : (P.x - v.x) * (Q.y - v.y) < 0 := Int.mul_neg_of_neg_of_pos (by omega) (by omega)
    omega
/-- A side wholly left of p adds nothing. -/
theorem con_left {a b p : Pt} (h1 : a.x < p.x) (h2 : b.x < p.x) : con a b p = 0 := by
  have e1 : a.y ≤ p.y → p.y < b.y → crs a b p < 0 := fun g1 g2 => crs_x_gt h1 h2 g1 (by omega) (by omega)
  have e2 : b.y ≤ p.y → p.y < a.y → 0 < crs a b p := fun g1 g2 => by
    have := crs_x_gt h2 h1 g1 (by omega) (by omega)
    rw [crs_swap] at this
    omega
  unfold con
  split <;> (try split) <;> omega
/-- One wholly right of p adds what its ends' heights say. -/
def up (p v : Pt) : Int := if p.y < v.y then 1 else 0
theorem con_right {a b p : Pt} (h1 : p.x < a.x) (h2 : p.x < b.x) : con a b p = up p b - up p a := by
  have e1 : a.y ≤ p.y → p.y < b.y → 0 < crs a b p := fun g1 g2 => crs_x_lt h1 h2 g1 (by omega) (by omega)
  have e2 : b.y ≤ p.y → p.y < a.y → crs a b p < 0 := fun g1 g2 => by
    have := crs_x_lt h2 h1 g1 (by omega) (by omega)
    rw [crs_swap] at this
    omega
  unfold con up
  split <;> (try split) <;> (try split) <;> (try split) <;> omega

theorem move_up {a b P Q : Pt} (hy : P.y ≤ Q.y) (h : Beside a b P Q) : con a b Q - con a b P = phi P Q b - phi P Q a := by
  rcases h with ⟨h1, h2, h3, h4⟩ | ⟨h1, h2, h3, h4⟩ | ⟨h1, h2, h3, h4⟩ | ⟨h1, h2, h3, h4⟩ | ⟨h1, h2⟩ | ⟨h1, h2⟩ | ⟨h1, h2⟩ | ⟨h1, h2⟩
  · rw [con_left h2 h4, con_left h1 h3]
    have e1 : P.y < a.y → a.y ≤ Q.y → 0 < crs P Q a := fun g1 g2 => crs_x_lt h1 h2 (by omega) g2 (by omega)
    have e2 : P.y < b.y → b.y ≤ Q.y → 0 < crs P Q b := fun g1 g2 => crs_x_lt h3 h4 (by omega) g2 (by omega)
    unfold phi
    split <;> (try split) <;> (try split) <;> (try split) <;> omega
  · rw [con_right h2 h4, con_right h1 h3]
    have e1 : P.y < a.y → a.y ≤ Q.y → crs P Q a < 0 := fun g1 g2 => crs_x_gt h1 h2 (by omega) g2 (by omega)
    have e2 : P.y < b.y → b.y ≤ Q.y → crs P Q b < 0 := fun g1 g2 => crs_x_gt h3 h4 (by omega) g2 (by omega)
    unfold phi up
    split <;> split <;> split <;> split <;> split <;> (try split) <;> (try split) <;> omega
  · unfold con phi
    split <;> (try split) <;> (try split) <;> (try split) <;> (try split) <;> (try split) <;> omega
  · unfold con phi
    split <;> (try split) <;> (try split) <;> (try split) <;> (try split) <;> (try split) <;> omega
  · exact move_ab hy h1 h2
  · have := move_ab (a := b) (b := a) hy (by rw [crs_swap]; omega) (by rw [crs_swap]; omega)
    rw [con_swap a b, con_swap a b] at this
    omega
  · exact move_pq hy h1 h2
  · exact move_pq' hy h1 h2
theorem Beside.turn {a b P Q : Pt} (h : Beside a b P Q) : Beside a b Q P := by
  unfold Beside at h ⊢
  rw [crs_swap P Q a, crs_swap P Q b]
  rcases h with h | h | h | h | h | h | h | h
  · exact .inl (by omega)
  · exact .inr (.inl (by omega))
  · exact .inr (.inr (.inl (by omega)))
  · exact .inr (.inr (.inr (.inl (by omega))))
  · exact .inr (.inr (.inr (.inr (.inl (by omega)))))
  · exact .inr (.inr (.inr (.inr (.inr (.inl (by omega))))))
  · exact .inr (.inr (.inr (.inr (.inr (.inr (.inr (by omega)))))))
  · exact .inr (.inr (.inr (.inr (.inr (.inr (.inl (by omega)))))))
theorem Beside.symm {a b P Q : Pt} (h : Beside a b P Q) : Beside P Q a b := by
  unfold Beside at h ⊢
  rcases h with h | h | h | h | h | h | h | h
  · exact .inr (.inl (by omega))
  · exact .inl (by omega)
  · exact .inr (.inr (.inr (.inl (by omega))))
  · exact .inr (.inr (.inl (by omega)))
  · exact .inr (.inr (.inr (.inr (.inr (.inr (.inl h))))))
  · exact .inr (.inr (.inr (.inr (.inr (.inr (.inr h))))))
  · exact .inr (.inr (.inr (.inr (.inl h))))
  · exact .inr (.inr (.inr (.inr (.inr (.inl h)))))
/-- WHAT A MOVE CHANGES: p goes from P to Q, and does not meet the side of a and b. -/
theorem move_any {a b P Q : Pt} (h : Beside a b P Q) : con a b Q - con a b P = phi P Q b - phi P Q a := by
  rcases Int.le_total P.y Q.y with g | g
  · exact move_up g h
  · have := move_up g h.turn
    rw [phi_swap P Q, phi_swap P Q] at this
    omega
end Go.Proofs.Ytigcbldbolablaa.Jor
