/- Limits, spans, distances: what these calls answer. -/
import Derived.Test.YtigcbldbolablaaA4
namespace Go.Proofs.Ytigcbldbolablaa
open Go.RowKit

theorem may2 (x y : Int) (W : World) (b : Nat) (hb : b = W.heap.size) : Calls Try.prog 55 #[.slice (some ⟨b, 0, none⟩) 2 2] (W.alloc (.cells #[.int .i64 x, .int .i64 y] 3)) fun e w' => e = .returned (.bool (mayL [x, y])) ∧ W.alloc (.cells #[.int .i64 x, .int .i64 y] 3) = w' := by
  subst hb
  exact may_any _ _ [x, y] _ (ints_new W [x, y] 3 _ rfl) (by simp) (by simp)
theorem may4 (x y z t : Int) (W : World) (b : Nat) (hb : b = W.heap.size) : Calls Try.prog 55 #[.slice (some ⟨b, 0, none⟩) 4 4] (W.alloc (.cells #[.int .i64 x, .int .i64 y, .int .i64 z, .int .i64 t] 3)) fun e w' => e = .returned (.bool (mayL [x, y, z, t])) ∧ W.alloc (.cells #[.int .i64 x, .int .i64 y, .int .i64 z, .int .i64 t] 3) = w' := by
  subst hb
  exact may_any _ _ [x, y, z, t] _ (ints_new W [x, y, z, t] 3 _ rfl) (by simp) (by simp)

def lim (fl ce : Int) (m : Nat) : Int := if mayL [fl, ce] = false then 5 else if fl > 0 then 100 else if ce ≤ 0 then 100 else if m > 8 then 4 else 0
def lim' (b : Bool) (fl ce : Int) (m : Nat) : Int := if b = false then 5 else if fl > 0 then 100 else if ce ≤ 0 then 100 else if m > 8 then 4 else 0

set_option maxHeartbeats 1000000 in
theorem limits_any (A B : Option Addr) (n c m d : Nat) (fl ce : Int) (w : World) (hm : m ≤ 4611686018427387904) :
    Calls Try.prog 47 #[.agg #[.slice A n c, .int .i64 fl, .int .i64 ce, .slice B m d]] w fun e w' => e = .returned (.int .i64 (lim fl ce m)) ∧ Below w.heap.size w w' := by
  have hl : lim fl ce m = lim' (mayL [fl, ce]) fl ce m := rfl
  rw [hl]
  clear hl
  have HC' := may2 fl ce
  generalize mayL [fl, ce] = b at HC' ⊢
  have HC := hid HC'
  clear HC'
  cases b with
  | false =>
    go_enter Try.func47, Try.ntmps47
    go_wp2_with (go_at_call 55; refine (HC.out _ _ (by simp)).mono ?_; rintro e w1 ⟨rfl, rfl⟩)
    go_ret
    exact ⟨rfl, ((Below.refl _ _).alloc (Nat.le_refl _) _).alloc (by simp) _⟩
  | true =>
    go_enter Try.func47, Try.ntmps47
    go_wp2_with (go_at_call 55; refine (HC.out _ _ (by simp)).mono ?_; rintro e w1 ⟨rfl, rfl⟩)
    all_goals
      go_ret
      refine ⟨ret_int ?_, ((Below.refl _ _).alloc (Nat.le_refl _) _).alloc (by simp) _⟩
      unfold lim'
      repeat (first | rw [if_pos (by first | assumption | omega)] | rw [if_neg (by first | simp; done | omega)])

set_option maxHeartbeats 1000000 in
theorem span_any (a b r : Int) (w : World) :
    Calls Try.prog 84 #[.int .i64 a, .int .i64 b, .int .i64 r] w fun e w' => e = .returned (.agg #[.int .i64 (wrap64 (min a b - r)), .int .i64 (wrap64 (max a b + r))]) ∧ Below w.heap.size w w' := by
  by_cases h1 : a < b
  · have e1 : min a b = a := by omega
    have e2 : max a b = b := by omega
    rw [e1, e2]
    clear e1 e2
    go_enter Try.func84, Try.ntmps84
    go_wp2
    exact bodyPost_ret (v := .agg #[.int .i64 (wrap64 (a - r)), .int .i64 (wrap64 (b + r))]) (by simp [results, Try.results84, go_sem]) rfl ⟨rfl, (Below.refl _ _).alloc (Nat.le_refl _) _⟩
  · have e1 : min a b = b := by omega
    have e2 : max a b = a := by omega
    rw [e1, e2]
    clear e1 e2
    by_cases h2 : a = b
    · subst h2
      go_enter Try.func84, Try.ntmps84
      go_wp2
      exact bodyPost_ret (v := .agg #[.int .i64 (wrap64 (a - r)), .int .i64 (wrap64 (a + r))]) (by simp [results, Try.results84, go_sem]) rfl ⟨rfl, (Below.refl _ _).alloc (Nat.le_refl _) _⟩
    · have h3 : b < a := by omega
      clear h1 h2
      go_enter Try.func84, Try.ntmps84
      go_wp2
      exact bodyPost_ret (v := .agg #[.int .i64 (wrap64 (b - r)), .int .i64 (wrap64 (a + r))]) (by simp [results, Try.results84, go_sem]) rfl ⟨rfl, (Below.refl _ _).alloc (Nat.le_refl _) _⟩

theorem pts_new (w : World) (l : List Pt) (t : TypeId) (cs : Array Value) (h : ∀ k, k < l.length → cs[k * 2]? = some (.int .i64 (npt l k).x) ∧ cs[k * 2 + 1]? = some (.int .i64 (npt l k).y)) : Pts (w.alloc (.cells cs t)) (some ⟨w.heap.size, 0, none⟩) l := fun k hk => by
  refine ⟨_, rfl, by simp, ?_, ?_⟩
  · rw [add_lit, Nat.zero_add, cell_new, (h k hk).1]; rfl
  · rw [add_lit, Nat.zero_add]
    show (w.alloc (.cells cs t)).cell? ⟨w.heap.size, k * 2 + 1, none⟩ = _
    rw [cell_new, (h k hk).2]; rfl
theorem fits2 (p q : Pt) (W : World) (b : Nat) (hb : b = W.heap.size) (W1 : World) (h1 : W1 = W.alloc (.cells #[.int .i64 p.x, .int .i64 p.y, .int .i64 q.x, .int .i64 q.y] 39)) :
    Calls Try.prog 68 #[.slice (some ⟨b, 0, none⟩) 2 2] W1 fun e w' => e = .returned (.bool (!(badP p || badP q))) ∧ Below W1.heap.size W1 w' := by
  subst hb h1
  have h := fits_any (some ⟨W.heap.size, 0, none⟩) 2 [p, q] _ (pts_new W [p, q] 39 #[.int .i64 p.x, .int .i64 p.y, .int .i64 q.x, .int .i64 q.y] (by
    intro k hk
    have : k = 0 ∨ k = 1 := by simp at hk; omega
    rcases this with rfl | rfl <;> exact ⟨rfl, rfl⟩)) (by simp)
  simpa using h

def farV (p q : Pt) : Int := wrap64 (wrap64 (wrap64 (p.x - q.x) * wrap64 (p.x - q.x)) + wrap64 (wrap64 (p.y - q.y) * wrap64 (p.y - q.y)))
set_option maxHeartbeats 1000000 in
theorem far_yes (p q : Pt) (w : World) (h : (badP p || badP q) = false) :
    Calls Try.prog 37 #[.agg #[.int .i64 p.x, .int .i64 p.y], .agg #[.int .i64 q.x, .int .i64 q.y]] w fun e w' => e = .returned (.tuple #[.int .i64 (farV p q), .int .i64 0]) ∧ Below w.heap.size w w' := by
  have H := hid h
  clear h
  go_enter Try.func37, Try.ntmps37
  go_wp2_with fail
  refine (fits2 p q _ _ (by simp) _ rfl).mono ?_
  rw [H.out]
  rintro e w1 ⟨rfl, hb1⟩
  obtain ⟨hc, hf⟩ := bcell hb1
  go_wp2
  go_ret2
  exact ⟨rfl, below_then ((((Below.refl _ _).alloc (Nat.le_refl _) _).alloc (by simp) _).alloc (by simp; omega) _) (by simp; omega) hb1⟩
set_option maxHeartbeats 1000000 in
theorem far_no (p q : Pt) (w : World) (h : (badP p || badP q) = true) :
    Calls Try.prog 37 #[.agg #[.int .i64 p.x, .int .i64 p.y], .agg #[.int .i64 q.x, .int .i64 q.y]] w fun e w' => e = .returned (.tuple #[.int .i64 0, .int .i64 5]) ∧ Below w.heap.size w w' := by
  have H := hid h
  clear h
  go_enter Try.func37, Try.ntmps37
  go_wp2_with fail
  refine (fits2 p q _ _ (by simp) _ rfl).mono ?_
  rw [H.out]
  rintro e w1 ⟨rfl, hb1⟩
  obtain ⟨hc, hf⟩ := bcell hb1
  go_wp2
  go_ret2
  exact ⟨rfl, below_then ((((Below.refl _ _).alloc (Nat.le_refl _) _).alloc (by simp) _).alloc (by simp; omega) _) (by simp; omega) hb1⟩
end Go.Proofs.Ytigcbldbolablaa
