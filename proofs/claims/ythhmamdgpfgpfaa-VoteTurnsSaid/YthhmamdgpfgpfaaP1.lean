/- Plain facts on the vote: where two values lie in a span, so does the vote. -/
import Derived.Test.YthhmamdgpfgpfaaV8
namespace Go.Proofs.Ythhmamdgpfgpfaa

theorem srt_perm (l : List Int) : (srt l).Perm l := List.mergeSort_perm _ _
theorem srt_len (l : List Int) : (srt l).length = l.length := (srt_perm l).length_eq
theorem wit_iff {n lo hi : Int} : wit n lo hi = true ↔ lo ≤ n ∧ n ≤ hi := by simp [wit]

theorem pick_in {l : List Int} {lo hi : Int} (h2 : 2 ≤ l.countP (fun x => wit x lo hi)) (h3 : l.length ≤ 3) : wit (pick l) lo hi = true := by
  have hp := srt_perm l
  have ho := srt_ord l
  have hl := srt_len l
  have hc : (srt l).countP (fun x => wit x lo hi) = l.countP (fun x => wit x lo hi) := hp.countP_eq _
  have hle := List.countP_le_length (p := fun x => wit x lo hi) (l := l)
  have hn : l.length = 2 ∨ l.length = 3 := by omega
  unfold pick least most
  rw [← hc] at h2
  rcases hn with h | h
  · rw [h] at hl
    rw [h, if_neg (by omega), if_pos rfl]
    obtain ⟨p, q, e⟩ := two_of hl
    rw [e] at h2 ho ⊢
    simp at ho
    simp only [List.countP_cons, List.countP_nil] at h2
    have w1 : wit p lo hi = true := by
      cases hw : wit p lo hi with
      | true => rfl
      | false => rw [hw] at h2; simp at h2; split at h2 <;> omega
    have w2 : wit q lo hi = true := by
      cases hw : wit q lo hi with
      | true => rfl
      | false => rw [hw] at h2; simp at h2; split at h2 <;> omega
    rw [wit_iff] at w1 w2 ⊢
    simp
    omega
  · rw [h] at hl
    rw [h, if_neg (by omega), if_neg (by omega)]
    obtain ⟨p, q, r, e⟩ := three_of hl
    rw [e] at h2 ho ⊢
    simp at ho
    simp only [List.countP_cons, List.countP_nil] at h2
    show wit q lo hi = true
    cases hw : wit q lo hi with
    | true => rfl
    | false =>
      exfalso
      have w1 : wit p lo hi = true := by
        cases hw1 : wit p lo hi with
        | true => rfl
        | false => rw [hw, hw1] at h2; simp at h2; split at h2 <;> omega
      have w2 : wit r lo hi = true := by
        cases hw1 : wit r lo hi with
        | true => rfl
        | false => rw [hw, hw1] at h2; simp at h2; split at h2 <;> omega
      have w3 : ¬ (lo ≤ q ∧ q ≤ hi) := by rw [← wit_iff, hw]; simp
      rw [wit_iff] at w1 w2
      omega

theorem cnt_inc {r : Rd} {st a v lo hi : Int} (h : 0 ≤ st) : one (gd r lo hi) ≤ ((inc st (na r a) (nv r v)).countP (fun x => wit x lo hi) : Nat) := by
  unfold gd one
  cases ho : r.ok with
  | false => simp
  | true =>
    cases hw : wit r.x lo hi with
    | false => simp
    | true =>
      have e : inc st (na r a) (nv r v) = [r.x] := by simp [inc, na, nv, ho, h]
      rw [e]
      simp [hw]

theorem holds_plain {lo hi : Int} (now : Tk) (s : Vr) (hs : s.ok) : one (gd now.r0 lo hi) + one (gd now.r1 lo hi) + one (gd now.r2 lo hi) < 2 ∨ ((vlK s now.r0 now.r1 now.r2 3).length ≠ 0 ∧ wit (pick (vlK s now.r0 now.r1 now.r2 3)) lo hi = true) := by
  by_cases h : one (gd now.r0 lo hi) + one (gd now.r1 lo hi) + one (gd now.r2 lo hi) < 2
  · exact .inl h
  · right
    have h0 := cnt_inc (r := now.r0) (a := s.a0) (v := s.v0) (lo := lo) (hi := hi) hs.st
    have h1 := cnt_inc (r := now.r1) (a := s.a1) (v := s.v1) (lo := lo) (hi := hi) hs.st
    have h2 := cnt_inc (r := now.r2) (a := s.a2) (v := s.v2) (lo := lo) (hi := hi) hs.st
    have hc : 2 ≤ (vlK s now.r0 now.r1 now.r2 3).countP (fun x => wit x lo hi) := by
      rw [vl3, List.countP_append, List.countP_append]
      omega
    refine ⟨?_, pick_in hc (vlK_le s _ _ _ 3)⟩
    have := List.countP_le_length (p := fun x => wit x lo hi) (l := vlK s now.r0 now.r1 now.r2 3)
    omega
end Go.Proofs.Ythhmamdgpfgpfaa
