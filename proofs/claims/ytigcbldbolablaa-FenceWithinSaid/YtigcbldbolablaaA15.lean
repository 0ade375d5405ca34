/- Whether a rectangle lies inside a polygon. -/
import Derived.Test.YtigcbldbolablaaA14
namespace Go.Proofs.Ytigcbldbolablaa
open Go.RowKit

/-- Does one of the sides from number k on touch the rectangle? -/
def tch (l : List Pt) (x y : Sp) (k : Nat) : Bool := (List.range (l.length - k)).any fun j => tB (npt l (k + j)) (nxt l (k + j)) x y
theorem tch_end (l : List Pt) (x y : Sp) (k : Nat) (h : l.length ≤ k) : tch l x y k = false := by
  unfold tch
  rw [show l.length - k = 0 by omega]
  rfl
theorem tch_step (l : List Pt) (x y : Sp) (k : Nat) (h : k < l.length) : tch l x y k = (tB (npt l k) (nxt l k) x y || tch l x y (k + 1)) := by
  unfold tch
  rw [show l.length - k = l.length - (k + 1) + 1 by omega, List.range_succ_eq_map, List.any_cons, List.any_map]
  congr 2
  funext j
  simp only [Function.comp_apply, show k + (j + 1) = k + 1 + j by omega]
/-- What within answers. -/
def wthn (l : List Pt) (x y : Sp) : Bool := mayL [x.lo, x.hi, y.lo, y.hi] && !tch l x y 0 && decide (sdV l ⟨x.hi, y.hi⟩ = 1)
/-- A polygon that lies in memory, with corners enough. -/
structure Poly (w : World) (A : Option Addr) (l : List Pt) : Prop where
  pts : Pts w A l
  pos : 0 < l.length
  few : l.length ≤ 64

/-- What the closure reads, from block N on. -/
structure WI (w : World) (N c : Nat) (ad : Addr) (l : List Pt) (x y : Sp) (wr : World) : Prop where
  c0 : wr.cell? ⟨N, 0, none⟩ = some (.slice (some ad) l.length c)
  c1 : wr.cell? ⟨N + 1, 0, none⟩ = some (.int .i64 x.lo)
  c2 : wr.cell? ⟨N + 1, 1, none⟩ = some (.int .i64 x.hi)
  c3 : wr.cell? ⟨N + 1 + 1, 0, none⟩ = some (.int .i64 y.lo)
  c4 : wr.cell? ⟨N + 1 + 1, 1, none⟩ = some (.int .i64 y.hi)
  c5 : wr.cell? ⟨N + 1 + 1 + 1 + 1, 0, none⟩ = some (.int .i64 ((l.length : Int) - 1))
  bl : Below w.heap.size w wr
theorem later_cell {W W' : World} (hb : Below W.heap.size W W') {a : Addr} {v : Value} (h : W.cell? a = some v) : W'.cell? a = some v := (hb.cell (World.block_lt_of_cell? W _ h)).trans h
theorem WI.below {w : World} {N c : Nat} {ad : Addr} {l : List Pt} {x y : Sp} {W W' : World} (h : WI w N c ad l x y W) (hb : Below W.heap.size W W') : WI w N c ad l x y W' :=
  ⟨later_cell hb h.c0, later_cell hb h.c1, later_cell hb h.c2, later_cell hb h.c3, later_cell hb h.c4, later_cell hb h.c5, below_then h.bl h.bl.size hb⟩

set_option maxRecDepth 100000 in
set_option maxHeartbeats 2000000 in
theorem within_any (A : Option Addr) (c : Nat) (l : List Pt) (x y : Sp) (w : World) (hr : Poly w A l) :
    Calls Try.prog 53 #[.slice A l.length c, .agg #[.int .i64 x.lo, .int .i64 x.hi], .agg #[.int .i64 y.lo, .int .i64 y.hi]] w fun e w' => e = .returned (.bool (wthn l x y)) ∧ Below w.heap.size w w' := by
  obtain ⟨hp, h0, hm⟩ := hr
  obtain ⟨ad, rfl, hab⟩ := hp.some_ h0
  have HP := hid hp
  clear hp
  cases hmay : mayL [x.lo, x.hi, y.lo, y.hi] with
  | false =>
    have hw : wthn l x y = false := by unfold wthn; rw [hmay]; rfl
    rw [hw]
    have HM := hid hmay
    clear hmay hw
    go_enter Try.func53, Try.ntmps53
    go_wp2_with fail
    refine (may4 _ _ _ _ _ _ (by simp)).mono ?_
    rw [HM.out]
    rintro e w1 ⟨rfl, rfl⟩
    go_wp2
    go_ret
    exact ⟨rfl, by go_grown⟩
  | true =>
    have hw : wthn l x y = (!tch l x y 0 && decide (sdV l ⟨x.hi, y.hi⟩ = 1)) := by unfold wthn; rw [hmay]; rfl
    rw [hw]
    have HM := hid hmay
    clear hmay hw
    go_enter Try.func53, Try.ntmps53
    go_wp2_with fail
    refine (may4 _ _ _ _ _ _ (by simp)).mono ?_
    rw [HM.out]
    rintro e w1 ⟨rfl, rfl⟩
    go_wp2_with fail
    go_loopw [9, 10, 30] (fun _ _ i wr => ∃ k : Nat, k ≤ l.length ∧ i = .int .i64 k ∧ Hid (tch l x y 0 = tch l x y k) ∧ Hid (WI w w.heap.size c ad l x y wr)) (fun _ _ i _ => l.length - (intOf i).toNat)
    case atStart => exact ⟨0, Nat.zero_le _, rfl, rfl, hid ⟨by simp [go_sem], by simp [go_sem], by simp [go_sem], by simp [go_sem], by simp [go_sem], by simp [go_sem], by go_grown⟩⟩
    case round =>
      obtain ⟨k, hk, rfl, ht, hw⟩ := hrel
      by_cases hlt : k < l.length
      · have hpr := HP.out.below hw.out.bl
        obtain ⟨c0, c1⟩ := hpr.nat k hlt
        have HPR := hid hpr
        clear hpr
        have hts := hid (ht.out.trans (tch_step l x y k hlt))
        clear ht
        go_wp2_with fail
        have hw2 := hid (hw.out.below ((Below.refl _ wr).alloc (Nat.le_refl _) (.cells #[.int .i64 (npt l k).x, .int .i64 (npt l k).y] 39)))
        refine (touched_any w.heap.size (w.heap.size + 1 + 1 + 1 + 1) (w.heap.size + 1) (w.heap.size + 1 + 1) c ad l x y k _ hlt hm hw2.out.c0 (HP.out.below hw2.out.bl) hw2.out.c5 hw2.out.c1 hw2.out.c2 hw2.out.c3 hw2.out.c4).mono ?_
        cases hB : tB (npt l k) (nxt l k) x y with
        | true =>
          have HT := hid hB
          rintro e w1 ⟨rfl, hb1⟩
          have HW1 := hid (hw2.out.below hb1)
          clear hB hw hw2 hb1 c0 c1
          go_wp2
          go_ret
          exact ⟨ret_bool (by rw [hts.out, HT.out]; rfl), HW1.out.bl⟩
        | false =>
          have HT := hid (show tch l x y 0 = tch l x y (k + 1) by rw [hts.out, hB, Bool.false_or])
          rintro e w1 ⟨rfl, hb1⟩
          have HW1 := hid (hw2.out.below hb1)
          clear hB hw hw2 hb1 c0 c1 hts
          go_wp2
          go_roundw
          case rel => exact ⟨k + 1, by omega, by go_num, HT, HW1⟩
          case measure => simp [intOf]; omega
      · have HT := hid (show tch l x y 0 = false by rw [ht.out, tch_end l x y k (by omega)])
        obtain ⟨c0, c1, c2, c3, c4, c5, hbl⟩ := hw.out
        have HBL := hid hbl
        have HPR := hid (HP.out.below hbl)
        clear ht hw hbl
        go_wp2_with fail
        refine (side_any _ c l ⟨x.hi, y.hi⟩ _ HPR.out (by omega)).mono ?_
        rintro e w1 ⟨rfl, hb1⟩
        have HB1 := hid (below_then HBL.out HBL.out.size hb1)
        go_wp2
        go_ret
        exact ⟨ret_bool (by rw [HT.out, Bool.eq_iff_iff]; simp), HB1.out⟩
end Go.Proofs.Ytigcbldbolablaa
