/- The least and the greatest of some numbers, and whether they may be coordinates. -/
import Derived.Test.YtigcbldbolablaaA3
namespace Go.Proofs.Ytigcbldbolablaa
open Go.RowKit

theorem getD_get {α : Type} (l : List α) (d : α) (j : Nat) (h : j < l.length) : l.getD j d = l[j] := by simp [List.getD_eq_getElem?_getD, h]
def nth (l : List Int) (k : Nat) : Int := l.getD k 0
theorem nth_mem {l : List Int} {k : Nat} (h : k < l.length) : nth l k ∈ l := by unfold nth; rw [getD_get _ _ _ h]; exact List.getElem_mem _
def Ints (w : World) (A : Option Addr) (l : List Int) : Prop :=
  ∀ k : Nat, k < l.length → ∃ ad : Addr, A = some ad ∧ ad.block < w.heap.size ∧ w.cell? (ad.add k) = some (.int .i64 (nth l k))
theorem Ints.below {w w1 : World} {A : Option Addr} {l : List Int} (h : Ints w A l) (hb : Below w.heap.size w w1) : Ints w1 A l := fun k hk => by
  obtain ⟨ad, rfl, h1, h2⟩ := h k hk
  refine ⟨ad, rfl, Nat.lt_of_lt_of_le h1 hb.size, ?_⟩
  rw [hb.cell (p := ad.add k) (by rw [add_blk]; exact h1)]; exact h2
theorem Ints.nat {w : World} {ad : Addr} {l : List Int} (h : Ints w (some ad) l) (i : Nat) (h1 : i < l.length) : w.cell? (ad.add i) = some (.int .i64 (nth l i)) := by
  obtain ⟨ad', e, _, h2⟩ := h i h1
  cases e
  exact h2
theorem Ints.some_ {w : World} {A : Option Addr} {l : List Int} (h : Ints w A l) (h1 : 0 < l.length) : ∃ ad : Addr, A = some ad ∧ ad.block < w.heap.size := by
  obtain ⟨ad, e, hb, _⟩ := h 0 h1
  exact ⟨ad, e, hb⟩
theorem add_lit (b o k : Nat) : (⟨b, o, none⟩ : Addr).add k = ⟨b, o + k, none⟩ := by unfold Addr.add; split <;> simp_all
theorem cell_new (w : World) (cs : Array Value) (t : TypeId) (k : Nat) : (w.alloc (.cells cs t)).cell? ⟨w.heap.size, k, none⟩ = cs[k]? := by
  rw [cell_of_row _ _ k cs t (0, 0) (heap_alloc_new w _)]
theorem ints_new (w : World) (l : List Int) (t : TypeId) (cs : Array Value) (h : cs = (l.map fun x => Value.int .i64 x).toArray) : Ints (w.alloc (.cells cs t)) (some ⟨w.heap.size, 0, none⟩) l := fun k hk => by
  refine ⟨_, rfl, by simp, ?_⟩
  rw [add_lit, Nat.zero_add, cell_new, h]
  simp [nth, List.getD_eq_getElem?_getD, hk]

def FstMin (l : List Int) (k : Nat) (x : Int) : Prop := (∀ j, j < k → x ≤ nth l j) ∧ x ∈ l
theorem fstMin_new {l : List Int} {k : Nat} {x : Int} (h : FstMin l k x) (hk : k < l.length) (hl : nth l k < x) : FstMin l (k + 1) (nth l k) := by
  refine ⟨fun j hj => ?_, nth_mem hk⟩
  rcases Nat.lt_succ_iff_lt_or_eq.1 hj with h1 | rfl
  · have := h.1 j h1; omega
  · exact Int.le_refl _
theorem fstMin_old {l : List Int} {k : Nat} {x : Int} (h : FstMin l k x) (hl : ¬ nth l k < x) : FstMin l (k + 1) x := by
  refine ⟨fun j hj => ?_, h.2⟩
  rcases Nat.lt_succ_iff_lt_or_eq.1 hj with h1 | rfl
  · exact h.1 j h1
  · omega
theorem fstMin_end {l : List Int} {k : Nat} {x : Int} (h : FstMin l k x) (hk : l.length ≤ k) : (∀ y ∈ l, x ≤ y) ∧ x ∈ l := by
  refine ⟨fun y hy => ?_, h.2⟩
  obtain ⟨j, hj, rfl⟩ := List.getElem_of_mem hy
  have := h.1 j (by omega)
  unfold nth at this
  rwa [getD_get _ _ _ hj] at this

/-- What slices.Min answers. -/
def ExtMin (l : List Int) (w : World) (e : Ending) (w' : World) : Prop := ∃ m : Int, e = .returned (.int .i64 m) ∧ ((∀ x ∈ l, m ≤ x) ∧ m ∈ l) ∧ w = w'

set_option maxHeartbeats 1000000 in
theorem Min_any (A : Option Addr) (c : Nat) (l : List Int) (w : World) (hr : Ints w A l) (h0 : 0 < l.length) (hm : l.length ≤ 64) :
    Calls Try.prog 82 #[.slice A l.length c] w (ExtMin l w) := by
  obtain ⟨ad, rfl, hab⟩ := hr.some_ h0
  have HR := hid hr
  have hc0 : w.cell? ad = some (.int .i64 (nth l 0)) := by simpa [Addr.add] using hr.nat 0 h0
  clear hr
  go_enter Try.func82, Try.ntmps82
  go_wp2
  go_loop [3, 4] (fun m i => ∃ (k : Nat) (x : Int), 1 ≤ k ∧ k ≤ l.length ∧ i = .int .i64 k ∧ m = .int .i64 x ∧ Hid (FstMin l k x)) (fun _ i => l.length - (intOf i).toNat)
  case atStart =>
    refine ⟨1, _, by omega, by omega, rfl, rfl, fun j hj => ?_, nth_mem h0⟩
    obtain rfl : j = 0 := by omega
    exact Int.le_refl _
  case round =>
    obtain ⟨k, x, hk1, hk, rfl, rfl, hx⟩ := hrel
    by_cases hlt : k < l.length
    · have hck := HR.out.nat k hlt
      by_cases hlx : nth l k < x
      · go_wp2
        go_round
        case rel => exact ⟨k + 1, _, by omega, by omega, by go_num, rfl, fstMin_new hx.out hlt hlx⟩
        case measure => simp [intOf]; omega
      · go_wp2
        go_round
        case rel => exact ⟨k + 1, _, by omega, by omega, by go_num, rfl, fstMin_old hx.out hlx⟩
        case measure => simp [intOf]; omega
    · go_wp2
      go_ret
      exact ⟨_, rfl, fstMin_end hx.out (by omega), rfl⟩

def FstMax (l : List Int) (k : Nat) (x : Int) : Prop := (∀ j, j < k → nth l j ≤ x) ∧ x ∈ l
theorem fstMax_new {l : List Int} {k : Nat} {x : Int} (h : FstMax l k x) (hk : k < l.length) (hl : x < nth l k) : FstMax l (k + 1) (nth l k) := by
  refine ⟨fun j hj => ?_, nth_mem hk⟩
  rcases Nat.lt_succ_iff_lt_or_eq.1 hj with h1 | rfl
  · have := h.1 j h1; omega
  · exact Int.le_refl _
theorem fstMax_old {l : List Int} {k : Nat} {x : Int} (h : FstMax l k x) (hl : ¬ x < nth l k) : FstMax l (k + 1) x := by
  refine ⟨fun j hj => ?_, h.2⟩
  rcases Nat.lt_succ_iff_lt_or_eq.1 hj with h1 | rfl
  · exact h.1 j h1
  · omega
theorem fstMax_end {l : List Int} {k : Nat} {x : Int} (h : FstMax l k x) (hk : l.length ≤ k) : (∀ y ∈ l, y ≤ x) ∧ x ∈ l := by
  refine ⟨fun y hy => ?_, h.2⟩
  obtain ⟨j, hj, rfl⟩ := List.getElem_of_mem hy
  have := h.1 j (by omega)
  unfold nth at this
  rwa [getD_get _ _ _ hj] at this

/-- What slices.Max answers. -/
def ExtMax (l : List Int) (w : World) (e : Ending) (w' : World) : Prop := ∃ m : Int, e = .returned (.int .i64 m) ∧ ((∀ x ∈ l, x ≤ m) ∧ m ∈ l) ∧ w = w'

set_option maxHeartbeats 1000000 in
theorem Max_any (A : Option Addr) (c : Nat) (l : List Int) (w : World) (hr : Ints w A l) (h0 : 0 < l.length) (hm : l.length ≤ 64) :
    Calls Try.prog 83 #[.slice A l.length c] w (ExtMax l w) := by
  obtain ⟨ad, rfl, hab⟩ := hr.some_ h0
  have HR := hid hr
  have hc0 : w.cell? ad = some (.int .i64 (nth l 0)) := by simpa [Addr.add] using hr.nat 0 h0
  clear hr
  go_enter Try.func83, Try.ntmps83
  go_wp2
  go_loop [3, 4] (fun m i => ∃ (k : Nat) (x : Int), 1 ≤ k ∧ k ≤ l.length ∧ i = .int .i64 k ∧ m = .int .i64 x ∧ Hid (FstMax l k x)) (fun _ i => l.length - (intOf i).toNat)
  case atStart =>
    refine ⟨1, _, by omega, by omega, rfl, rfl, fun j hj => ?_, nth_mem h0⟩
    obtain rfl : j = 0 := by omega
    exact Int.le_refl _
  case round =>
    obtain ⟨k, x, hk1, hk, rfl, rfl, hx⟩ := hrel
    by_cases hlt : k < l.length
    · have hck := HR.out.nat k hlt
      by_cases hlx : x < nth l k
      · go_wp2
        go_round
        case rel => exact ⟨k + 1, _, by omega, by omega, by go_num, rfl, fstMax_new hx.out hlt hlx⟩
        case measure => simp [intOf]; omega
      · go_wp2
        go_round
        case rel => exact ⟨k + 1, _, by omega, by omega, by go_num, rfl, fstMax_old hx.out hlx⟩
        case measure => simp [intOf]; omega
    · go_wp2
      go_ret
      exact ⟨_, rfl, fstMax_end hx.out (by omega), rfl⟩

def mayL (l : List Int) : Bool := l.all fun x => decide (-536870912 ≤ x) && decide (x ≤ 536870912)
theorem mayL_of {l : List Int} {a b : Int} {r : Bool} (h1 : (∀ x ∈ l, a ≤ x) ∧ a ∈ l) (h2 : (∀ x ∈ l, x ≤ b) ∧ b ∈ l) (hr : (r = true) ↔ (-536870912 ≤ a ∧ b ≤ 536870912)) : r = mayL l := by
  rw [Bool.eq_iff_iff, hr]
  unfold mayL
  rw [List.all_eq_true]
  constructor
  · rintro ⟨h3, h4⟩ x hx
    have := h1.1 x hx
    have := h2.1 x hx
    simp; omega
  · intro h
    have h3 := h a h1.2
    have h4 := h b h2.2
    simp at h3 h4
    omega
theorem mayL_low {l : List Int} {a : Int} (h1 : (∀ x ∈ l, a ≤ x) ∧ a ∈ l) (hr : ¬ -536870912 ≤ a) : mayL l = false := by
  unfold mayL
  rw [List.all_eq_false]
  exact ⟨a, h1.2, by simp; omega⟩

set_option maxHeartbeats 1000000 in
theorem may_any (A : Option Addr) (c : Nat) (l : List Int) (w : World) (hr : Ints w A l) (h0 : 0 < l.length) (hm : l.length ≤ 64) :
    Calls Try.prog 55 #[.slice A l.length c] w fun e w' => e = .returned (.bool (mayL l)) ∧ w = w' := by
  have HR := hid hr
  clear hr
  go_enter Try.func55, Try.ntmps55
  go_wp2_with fail
  refine (Min_any _ _ _ _ HR.out h0 hm).mono ?_
  rintro e w1 ⟨a, rfl, ha, rfl⟩
  have HA := hid ha
  clear ha
  by_cases hlo : -536870912 ≤ a
  · go_wp2_with fail
    refine (Max_any _ _ _ _ HR.out h0 hm).mono ?_
    rintro e w1 ⟨b, rfl, hb, rfl⟩
    have HB := hid hb
    clear hb
    go_wp2
    go_ret
    exact ⟨ret_bool (mayL_of HA.out HB.out (by simp; omega)), rfl⟩
  · go_wp2_with fail
    go_ret
    exact ⟨ret_bool (mayL_low HA.out (by omega)).symm, rfl⟩
end Go.Proofs.Ytigcbldbolablaa
