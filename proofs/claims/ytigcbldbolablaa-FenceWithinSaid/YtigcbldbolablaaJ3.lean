/- Plain facts on lanes and on the nearest rally point. -/
import Derived.Test.YtigcbldbolablaaJ2
import Derived.Test.YtigcbldbolablaaA18
namespace Go.Proofs.Ytigcbldbolablaa

theorem rly_inv (f : Fn) (p : Pt) (r : Int) (k : Nat) : -1 ≤ (rlyK f p r k).1 ∧ (rlyK f p r k).1 < k ∧
    ((rlyK f p r k).1 < 0 → ∀ i, i < k → lnB f.poly p (npt f.rl i) r = false) ∧
    (∀ n : Nat, (rlyK f p r k).1 = n → lnB f.poly p (npt f.rl n) r = true ∧ (rlyK f p r k).2 = farD p (npt f.rl n) ∧
      ∀ i, i < k → lnB f.poly p (npt f.rl i) r = true → ¬ (farD p (npt f.rl i) < farD p (npt f.rl n) ∨ (farD p (npt f.rl i) = farD p (npt f.rl n) ∧ i < n))) := by
  induction k with
  | zero =>
    refine ⟨by simp [rlyK], by simp [rlyK], fun _ i hi => by omega, fun n hn => ?_⟩
    simp [rlyK] at hn
  | succ k ih =>
    obtain ⟨i1, i2, i3, i4⟩ := ih
    cases hl : lnB f.poly p (npt f.rl k) r with
    | false =>
      rw [rly_no hl]
      refine ⟨i1, by omega, fun h i hi => ?_, fun n hn => ?_⟩
      · rcases Nat.lt_succ_iff_lt_or_eq.1 hi with g | rfl
        · exact i3 h i g
        · exact hl
      · obtain ⟨j1, j2, j3⟩ := i4 n hn
        refine ⟨j1, j2, fun i hi hli => ?_⟩
        rcases Nat.lt_succ_iff_lt_or_eq.1 hi with g | rfl
        · exact j3 i g hli
        · rw [hl] at hli; cases hli
    | true =>
      by_cases hneg : (rlyK f p r k).1 < 0
      · rw [rly_yes (.inl hneg) hl]
        refine ⟨by show -1 ≤ (k : Int); omega, by show (k : Int) < ((k + 1 : Nat) : Int); omega, fun h => absurd h (by show ¬ (k : Int) < 0; omega), fun n hn => ?_⟩
        have hkn : k = n := by have : (k : Int) = n := hn; omega
        subst hkn
        refine ⟨hl, rfl, fun i hi hli => ?_⟩
        rcases Nat.lt_succ_iff_lt_or_eq.1 hi with g | rfl
        · rw [i3 hneg i g] at hli; cases hli
        · omega
      · obtain ⟨m, hm⟩ : ∃ m : Nat, (rlyK f p r k).1 = m := ⟨(rlyK f p r k).1.toNat, by omega⟩
        obtain ⟨j1, j2, j3⟩ := i4 m hm
        by_cases hd : farD p (npt f.rl k) < (rlyK f p r k).2
        · rw [rly_yes (.inr hd) hl]
          refine ⟨by show -1 ≤ (k : Int); omega, by show (k : Int) < ((k + 1 : Nat) : Int); omega, fun h => absurd h (by show ¬ (k : Int) < 0; omega), fun n hn => ?_⟩
          have hkn : k = n := by have : (k : Int) = n := hn; omega
          subst hkn
          refine ⟨hl, rfl, fun i hi hli => ?_⟩
          rcases Nat.lt_succ_iff_lt_or_eq.1 hi with g | rfl
          · have := j3 i g hli
            rw [j2] at hd
            omega
          · omega
        · rw [rly_far hneg hd]
          refine ⟨i1, by omega, fun h => absurd h hneg, fun n hn => ?_⟩
          obtain ⟨l1, l2, l3⟩ := i4 n hn
          refine ⟨l1, l2, fun i hi hli => ?_⟩
          rcases Nat.lt_succ_iff_lt_or_eq.1 hi with g | rfl
          · exact l3 i g hli
          · rw [l2] at hd
            have : (n : Int) < i := by omega
            omega
theorem RlE_ok {f : Fn} {p : Pt} {r : Int} (h : RlE f p r = 0) : chk f = 0 ∧ mayL [p.x, p.y] = true ∧ 0 ≤ r := by
  unfold RlE at h
  split at h
  · rename_i h1; exact absurd h h1
  · rename_i h1
    split at h
    · omega
    · rename_i h2
      split at h
      · omega
      · rename_i h3
        exact ⟨Decidable.not_not.1 h1, by simpa using h2, by omega⟩
theorem chkR_ok {l : List Pt} : ∀ {m : List Pt}, chkR l m = 0 → ∀ q ∈ m, sdE l q = 0
  | [], _, q, hq => by cases hq
  | p :: t, h, q, hq => by
    unfold chkR at h
    split at h
    · rename_i h1; exact absurd h h1
    · rename_i h1
      split at h
      · omega
      · rcases List.mem_cons.1 hq with rfl | hq
        · exact Decidable.not_not.1 h1
        · exact chkR_ok h q hq
theorem chk_rally {f : Fn} (h : chk f = 0) {i : Nat} (hi : i < f.rl.length) : okP (npt f.rl i) := by
  have hs := chk_smp h
  unfold chk at h
  rw [if_neg (by simp [hs])] at h
  split at h
  · rename_i h1; exact absurd h h1
  · have := chkR_ok h (npt f.rl i) (by simp [npt, List.getD_eq_getElem?_getD, hi])
    unfold sdE at this
    rw [if_neg (by simp [hs])] at this
    rw [← badP_iff]
    cases hb : badP (npt f.rl i) with
    | false => rfl
    | true => rw [hb] at this; simp at this
theorem mayL2 {a b : Int} (h : mayL [a, b] = true) : okP ⟨a, b⟩ := by
  unfold mayL at h
  unfold okP
  simp at h
  dsimp only
  omega
theorem mayL_of_ok {p q : Pt} (hp : okP p) (hq : okP q) : mayL [p.x, p.y, q.x, q.y] = true := by
  unfold okP at hp hq
  unfold mayL
  simp
  omega
theorem lane_ok {f : Fn} {p : Pt} {r : Int} (h : RlE f p r = 0) {i : Nat} (hi : i < f.rl.length) : LnE f p (npt f.rl i) r = 0 ∧ LnV f p (npt f.rl i) r = lnB f.poly p (npt f.rl i) r ∧ farE p (npt f.rl i) = 0 := by
  obtain ⟨h1, h2, h3⟩ := RlE_ok h
  have hp : okP p := mayL2 h2
  have hq := chk_rally h1 hi
  have e : LnE f p (npt f.rl i) r = 0 := by
    unfold LnE
    rw [if_neg (by simp [h1]), mayL_of_ok hp hq, if_neg (by simp), if_neg (by omega)]
  refine ⟨e, by unfold LnV; rw [e]; rfl, ?_⟩
  unfold farE
  rw [(badP_iff p).2 hp, (badP_iff _).2 hq]
  rfl
end Go.Proofs.Ytigcbldbolablaa
