/- Whether sides of a polygon are tangled: what these calls answer. -/
import Derived.Test.YtigcbldbolablaaA2
namespace Go.Proofs.Ytigcbldbolablaa
open Go.RowKit

def dotp (ax ay cx cy bx b_y : Int) : Int := wrap64 (wrap64 (wrap64 (ax - cx) * wrap64 (bx - cx)) + wrap64 (wrap64 (ay - cy) * wrap64 (b_y - cy)))
def spk (a c b : Pt) : Bool := decide (crs a.x a.y c.x c.y b.x b.y = 0) && decide (dotp a.x a.y c.x c.y b.x b.y > 0)

set_option maxHeartbeats 1000000 in
theorem spike_any (a c b : Pt) (w : World) :
    Calls Try.prog 92 #[.agg #[.int .i64 a.x, .int .i64 a.y], .agg #[.int .i64 c.x, .int .i64 c.y], .agg #[.int .i64 b.x, .int .i64 b.y]] w fun e w' => e = .returned (.bool (spk a c b)) ∧ Below w.heap.size w w' := by
  obtain ⟨ax, ay⟩ := a
  obtain ⟨cx, cy⟩ := c
  obtain ⟨bx, b_y⟩ := b
  have hs : spk ⟨ax, ay⟩ ⟨cx, cy⟩ ⟨bx, b_y⟩ = (decide (crs ax ay cx cy bx b_y = 0) && decide (dotp ax ay cx cy bx b_y > 0)) := rfl
  rw [hs]
  clear hs
  by_cases h0 : crs ax ay cx cy bx b_y = 0
  · have hb := beq_iff_eq.2 h0
    have H0 := hid h0
    clear h0
    go_enter Try.func92, Try.ntmps92
    go_wp2_with (go_at_call 90; refine (cross_any _ _ _ _ _ _ _).mono ?_; rintro e w1 ⟨rfl, hb1⟩)
    all_goals
      go_ret
      exact ⟨ret_bool (by simp [H0.out, dotp]), below_then ((((Below.refl _ _).alloc (Nat.le_refl _) _).alloc (by simp) _).alloc (by simp; omega) _) (by simp; omega) hb1⟩
  · have hb := beq_eq_false_iff_ne.2 h0
    have H0 := hid h0
    clear h0
    go_enter Try.func92, Try.ntmps92
    go_wp2_with (go_at_call 90; refine (cross_any _ _ _ _ _ _ _).mono ?_; rintro e w1 ⟨rfl, hb1⟩)
    go_ret
    exact ⟨ret_bool (by simp [H0.out]), below_then ((((Below.refl _ _).alloc (Nat.le_refl _) _).alloc (by simp) _).alloc (by simp; omega) _) (by simp; omega) hb1⟩

def mpt (a b c d : Pt) : Bool := mt a.x a.y b.x b.y c.x c.y d.x d.y
def mtl (l : List Pt) (i j : Nat) : Bool := decide (i + 2 ≤ j) && !(decide (i = 0) && decide (j + 1 = l.length)) && mpt (npt l i) (npt l (i + 1)) (npt l j) (npt l ((j + 1) % l.length))
def spl (l : List Pt) (i : Nat) : Bool := spk (npt l i) (npt l ((i + 1) % l.length)) (npt l ((i + 2) % l.length))
def tgl (l : List Pt) : Bool := (List.range l.length).any fun i => spl l i || (List.range l.length).any (mtl l i)

theorem spike_later {w : World} {n : Later w} (a c b : Pt) :
    Calls Try.prog 92 #[.agg #[.int .i64 a.x, .int .i64 a.y], .agg #[.int .i64 c.x, .int .i64 c.y], .agg #[.int .i64 b.x, .int .i64 b.y]] (lat w n) fun e w'' => e = .returned (.bool (spk a c b)) ∧ ∃ m : Later w, w'' = lat w m :=
  later_of (spike_any a c b _)
theorem meet_later {w : World} {n : Later w} (a b c d : Pt) :
    Calls Try.prog 93 #[.agg #[.int .i64 a.x, .int .i64 a.y], .agg #[.int .i64 b.x, .int .i64 b.y], .agg #[.int .i64 c.x, .int .i64 c.y], .agg #[.int .i64 d.x, .int .i64 d.y]] (lat w n) fun e w'' => e = .returned (.bool (mpt a b c d)) ∧ ∃ m : Later w, w'' = lat w m :=
  later_of (meet_any a.x a.y b.x b.y c.x c.y d.x d.y _)

theorem mod_bd (k n : Nat) (h : 0 < n) (c : Int) : 0 ≤ ((k : Int) + c) % (n : Int) ∧ ((k : Int) + c) % (n : Int) < (n : Int) := ⟨Int.emod_nonneg _ (by omega), Int.emod_lt_of_pos _ (by omega)⟩

theorem tgl_row {l : List Pt} {k : Nat} (hk : k < l.length) (h : (spl l k || (List.range l.length).any (mtl l k)) = true) : tgl l = true := by
  unfold tgl
  rw [List.any_eq_true]
  exact ⟨k, List.mem_range.2 hk, h⟩
theorem tgl_none {l : List Pt} {k : Nat} (hk : l.length ≤ k) (h : ∀ i, i < k → (spl l i || (List.range l.length).any (mtl l i)) = false) : tgl l = false := by
  unfold tgl
  rw [List.any_eq_false]
  intro i hi
  rw [h i (by have := List.mem_range.1 hi; omega)]
  simp
theorem row_next {l : List Pt} {k : Nat} (hs : spl l k = false) (hm : ∀ j, j < l.length → mtl l k j = false) (h : ∀ i, i < k → (spl l i || (List.range l.length).any (mtl l i)) = false) :
    ∀ i, i < k + 1 → (spl l i || (List.range l.length).any (mtl l i)) = false := by
  intro i hi
  rcases Nat.lt_succ_iff_lt_or_eq.1 hi with h1 | rfl
  · exact h i h1
  · rw [hs, Bool.false_or, List.any_eq_false]
    intro j hj
    rw [hm j (List.mem_range.1 hj)]
    simp
theorem mtl_low {l : List Pt} {k : Nat} : ∀ j, j < k + 2 → mtl l k j = false := by
  intro j hj
  unfold mtl
  rw [decide_eq_false (by omega)]
  rfl
theorem mtl_next {l : List Pt} {k m : Nat} (h : ∀ j, j < m → mtl l k j = false) (hm : mtl l k m = false) : ∀ j, j < m + 1 → mtl l k j = false := by
  intro j hj
  rcases Nat.lt_succ_iff_lt_or_eq.1 hj with h1 | rfl
  · exact h j h1
  · exact hm
theorem mtl_mt {l : List Pt} {k m : Nat} (h : k + 2 ≤ m) (hz : ¬ (k = 0 ∧ m + 1 = l.length)) : mtl l k m = mpt (npt l k) (npt l (k + 1)) (npt l m) (npt l ((m + 1) % l.length)) := by
  unfold mtl
  rw [decide_eq_true h, ← Bool.decide_and, decide_eq_false hz]
  rfl
theorem mtl_last {l : List Pt} {k m : Nat} (hz : k = 0 ∧ m + 1 = l.length) : mtl l k m = false := by
  unfold mtl
  rw [← Bool.decide_and, decide_eq_true hz]
  simp

set_option maxHeartbeats 4000000 in
theorem tangled_any (A : Option Addr) (c : Nat) (l : List Pt) (w : World) (hr : Pts w A l) (hm : l.length ≤ 64) :
    Calls Try.prog 75 #[.slice A l.length c] w fun e w' => e = .returned (.bool (tgl l)) ∧ Below w.heap.size w w' := by
  have HR := hid hr
  clear hr
  go_enter Try.func75, Try.ntmps75
  go_wp2
  go_loopw [4, 5, 9] (fun _ _ i wr => ∃ k : Nat, k ≤ l.length ∧ i = .int .i64 k ∧ Hid (∀ i, i < k → (spl l i || (List.range l.length).any (mtl l i)) = false) ∧ Hid (Below w.heap.size w wr)) (fun _ _ i _ => l.length - (intOf i).toNat)
  case atStart => exact ⟨0, Nat.zero_le _, rfl, fun j hj => by omega, Below.refl _ _⟩
  case round =>
    obtain ⟨k, hk, rfl, hno, hb⟩ := hrel
    by_cases hlt : k < l.length
    · obtain ⟨ad, rfl, hab⟩ := HR.out.some_ (by omega)
      have HP := hid (HR.out.below hb.out)
      obtain ⟨hc1, hc2⟩ := HP.out.nat k hlt
      obtain ⟨hd1, hd2⟩ := HP.out.nat ((k + 1) % l.length) (Nat.mod_lt _ (by omega))
      obtain ⟨he1, he2⟩ := HP.out.nat ((k + 2) % l.length) (Nat.mod_lt _ (by omega))
      have lc1 := lat_fact hc1
      have lc2 := lat_fact hc2
      have ld1 := lat_fact hd1
      have ld2 := lat_fact hd2
      have le1 := lat_fact he1
      have le2 := lat_fact he2
      clear hc1 hc2 hd1 hd2 he1 he2
      obtain ⟨b1, b2⟩ := mod_bd k l.length (by omega) 1
      obtain ⟨b3, b4⟩ := mod_bd k l.length (by omega) 2
      go_wp2_with fail
      refine wp_region_later_lit (by kernel_rfl) (by kernel_rfl) ?_
      repeat (go_big_quiet_step (exact spike_later _ _ _))
      refine wpQuiet_nil ?_
      rintro _ ⟨nq, rfl⟩
      clear lc1 lc2 ld1 ld2 le1 le2 b1 b2 b3 b4
      have HB := hid (below_then hb.out hb.out.size (lat_below wr nq))
      clear hb HP
      generalize lat wr nq = w2 at *
      cases hs : spk (npt l k) (npt l ((k + 1) % l.length)) (npt l ((k + 2) % l.length)) with
      | true =>
        have HS := hid hs
        clear hs
        go_wp2
        go_ret
        refine ⟨ret_bool ?_, HB.out⟩
        exact (tgl_row hlt (by unfold spl; rw [HS.out]; rfl)).symm
      | false =>
        have HS := hid hs
        clear hs
        go_wp2
        go_loopw [5] (fun j wi => ∃ m : Nat, k + 2 ≤ m ∧ m ≤ l.length + 2 ∧ j = .int .i64 m ∧ Hid (∀ j, j < m → mtl l k j = false) ∧ Hid (Below w.heap.size w wi)) (fun j _ => l.length + 2 - (intOf j).toNat)
        case atStart => exact ⟨k + 2, by omega, by omega, by go_num, mtl_low, HB.out⟩
        case round =>
          rename_i wi
          obtain ⟨m, hm1, hm2, rfl, hno2, hb2⟩ := hrel
          by_cases hlm : m < l.length
          · by_cases hz : k = 0 ∧ m + 1 = l.length
            · have hz1 : ((k : Int) == 0) = true := beq_iff_eq.2 (by omega)
              have hz2 : ((m : Int) == (l.length : Int) - 1) = true := beq_iff_eq.2 (by omega)
              have HZ := hid hz
              clear hz
              go_wp2
              go_roundw
              case rel => exact ⟨m + 1, by omega, by omega, by go_num, mtl_next hno2.out (mtl_last HZ.out), hb2⟩
              case measure => simp [intOf]; omega
            · have HZ := hid hz
              have HP := hid (HR.out.below hb2.out)
              obtain ⟨hc1, hc2⟩ := HP.out.nat k hlt
              obtain ⟨hd1, hd2⟩ := HP.out.nat (k + 1) (by omega)
              obtain ⟨he1, he2⟩ := HP.out.nat m hlm
              obtain ⟨hf1, hf2⟩ := HP.out.nat ((m + 1) % l.length) (Nat.mod_lt _ (by omega))
              have lc1 := lat_fact hc1
              have lc2 := lat_fact hc2
              have ld1 := lat_fact hd1
              have ld2 := lat_fact hd2
              have le1 := lat_fact he1
              have le2 := lat_fact he2
              have lf1 := lat_fact hf1
              have lf2 := lat_fact hf2
              clear hc1 hc2 hd1 hd2 he1 he2 hf1 hf2
              obtain ⟨b1, b2⟩ := mod_bd m l.length (by omega) 1
              by_cases hk0 : k = 0
              · have hz1 : ((k : Int) == 0) = true := beq_iff_eq.2 (by omega)
                have hz2 : ((m : Int) == (l.length : Int) - 1) = false := beq_eq_false_iff_ne.2 (by omega)
                clear hz hk0
                go_wp2_with fail
                refine wp_region_later_lit (by kernel_rfl) (by kernel_rfl) ?_
                repeat (go_big_quiet_step (exact meet_later _ _ _ _))
                refine wpQuiet_nil ?_
                rintro _ ⟨nq, rfl⟩
                have HB2 := hid (below_then hb2.out hb2.out.size (lat_below _ nq))
                clear hb2 HP lc1 lc2 ld1 ld2 le1 le2 lf1 lf2 b1 b2
                generalize lat _ nq = w3 at *
                cases hs2 : mpt (npt l k) (npt l (k + 1)) (npt l m) (npt l ((m + 1) % l.length)) with
                | true =>
                  have HS2 := hid hs2
                  clear hs2
                  go_wp2
                  go_ret
                  exact ⟨ret_bool (tgl_row hlt (by rw [Bool.or_eq_true]; right; rw [List.any_eq_true]; exact ⟨m, List.mem_range.2 hlm, by rw [mtl_mt hm1 HZ.out]; exact HS2.out⟩)).symm, HB2.out⟩
                | false =>
                  have HS2 := hid hs2
                  clear hs2
                  go_wp2
                  go_roundw
                  case rel => exact ⟨m + 1, by omega, by omega, by go_num, mtl_next hno2.out (by rw [mtl_mt hm1 HZ.out]; exact HS2.out), HB2⟩
                  case measure => simp [intOf]; omega
              · have hz1 : ((k : Int) == 0) = false := beq_eq_false_iff_ne.2 (by omega)
                clear hz hk0
                go_wp2_with fail
                refine wp_region_later_lit (by kernel_rfl) (by kernel_rfl) ?_
                repeat (go_big_quiet_step (exact meet_later _ _ _ _))
                refine wpQuiet_nil ?_
                rintro _ ⟨nq, rfl⟩
                have HB2 := hid (below_then hb2.out hb2.out.size (lat_below _ nq))
                clear hb2 HP lc1 lc2 ld1 ld2 le1 le2 lf1 lf2 b1 b2
                generalize lat _ nq = w3 at *
                cases hs2 : mpt (npt l k) (npt l (k + 1)) (npt l m) (npt l ((m + 1) % l.length)) with
                | true =>
                  have HS2 := hid hs2
                  clear hs2
                  go_wp2
                  go_ret
                  exact ⟨ret_bool (tgl_row hlt (by rw [Bool.or_eq_true]; right; rw [List.any_eq_true]; exact ⟨m, List.mem_range.2 hlm, by rw [mtl_mt hm1 HZ.out]; exact HS2.out⟩)).symm, HB2.out⟩
                | false =>
                  have HS2 := hid hs2
                  clear hs2
                  go_wp2
                  go_roundw
                  case rel => exact ⟨m + 1, by omega, by omega, by go_num, mtl_next hno2.out (by rw [mtl_mt hm1 HZ.out]; exact HS2.out), HB2⟩
                  case measure => simp [intOf]; omega
          · go_wp2
            go_roundw
            case rel => exact ⟨k + 1, by omega, by go_num, row_next HS.out (fun j hj => hno2.out j (by omega)) hno.out, hb2⟩
            case measure => simp [intOf]; omega
    · go_wp2
      go_ret
      exact ⟨ret_bool (tgl_none (by omega) hno.out).symm, hb.out⟩
end Go.Proofs.Ytigcbldbolablaa
