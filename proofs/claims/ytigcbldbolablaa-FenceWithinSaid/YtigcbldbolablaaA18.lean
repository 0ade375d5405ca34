/- The nearest rally point. -/
import Derived.Test.YtigcbldbolablaaA17
namespace Go.Proofs.Ytigcbldbolablaa
open Go.RowKit
set_option linter.unusedSimpArgs false

def farE (p q : Pt) : Int := if badP p || badP q then 5 else 0
def farD (p q : Pt) : Int := if badP p || badP q then 0 else farV p q
theorem far_any (p q : Pt) (w : World) :
    Calls Try.prog 37 #[.agg #[.int .i64 p.x, .int .i64 p.y], .agg #[.int .i64 q.x, .int .i64 q.y]] w fun e w' => e = .returned (.tuple #[.int .i64 (farD p q), .int .i64 (farE p q)]) ∧ Below w.heap.size w w' := by
  unfold farD farE
  cases h : badP p || badP q with
  | true => exact far_no p q w h
  | false => exact far_yes p q w h
/-- The best one of the first k rally points, and how far it is. -/
def rlyK (f : Fn) (p : Pt) (r : Int) : Nat → Int × Int
  | 0 => (-1, 0)
  | k + 1 => if (decide ((rlyK f p r k).1 < 0) || decide (farD p (npt f.rl k) < (rlyK f p r k).2)) && lnB f.poly p (npt f.rl k) r then ((k : Int), farD p (npt f.rl k)) else rlyK f p r k
def RlE (f : Fn) (p : Pt) (r : Int) : Int := if chk f ≠ 0 then chk f else if mayL [p.x, p.y] = false then 5 else if r < 0 then 1 else 0
def RlV (f : Fn) (p : Pt) (r : Int) : Int := if RlE f p r = 0 then (rlyK f p r f.rl.length).1 else 0
theorem rly_yes {f : Fn} {p : Pt} {r : Int} {k : Nat} (h : (rlyK f p r k).1 < 0 ∨ farD p (npt f.rl k) < (rlyK f p r k).2) (h2 : lnB f.poly p (npt f.rl k) r = true) : rlyK f p r (k + 1) = ((k : Int), farD p (npt f.rl k)) := by
  rw [rlyK, if_pos]
  rw [h2]
  rcases h with h | h <;> simp [h]
theorem rly_no {f : Fn} {p : Pt} {r : Int} {k : Nat} (h : lnB f.poly p (npt f.rl k) r = false) : rlyK f p r (k + 1) = rlyK f p r k := by
  rw [rlyK, if_neg]
  rw [h]
  simp
theorem rly_far {f : Fn} {p : Pt} {r : Int} {k : Nat} (h : ¬ (rlyK f p r k).1 < 0) (h2 : ¬ farD p (npt f.rl k) < (rlyK f p r k).2) : rlyK f p r (k + 1) = rlyK f p r k := by
  rw [rlyK, if_neg]
  rw [decide_eq_false h, decide_eq_false h2]
  simp

/-- What the loop reads. -/
structure RI (w : World) (N : Nat) (P : FP) (f : Fn) (p : Pt) (wr : World) : Prop where
  c0 : wr.cell? ⟨N, 0, none⟩ = some (.slice P.A f.poly.length P.c)
  c1 : wr.cell? ⟨N, 1, none⟩ = some (.int .i64 f.fl)
  c2 : wr.cell? ⟨N, 2, none⟩ = some (.int .i64 f.ce)
  c3 : wr.cell? ⟨N, 3, none⟩ = some (.slice P.B f.rl.length P.d)
  c4 : wr.cell? ⟨N + 1, 0, none⟩ = some (.int .i64 p.x)
  c5 : wr.cell? ⟨N + 1, 1, none⟩ = some (.int .i64 p.y)
  bl : Below w.heap.size w wr
theorem RI.below {w : World} {N : Nat} {P : FP} {f : Fn} {p : Pt} {W W' : World} (h : RI w N P f p W) (hb : Below W.heap.size W W') : RI w N P f p W' :=
  ⟨later_cell hb h.c0, later_cell hb h.c1, later_cell hb h.c2, later_cell hb h.c3, later_cell hb h.c4, later_cell hb h.c5, below_then h.bl h.bl.size hb⟩

set_option maxRecDepth 100000 in
set_option maxHeartbeats 4000000 in
theorem rally_any (P : FP) (f : Fn) (p : Pt) (r : Int) (w : World) (hr : FRd w P f) :
    Calls Try.prog 25 #[.agg #[.slice P.A f.poly.length P.c, .int .i64 f.fl, .int .i64 f.ce, .slice P.B f.rl.length P.d], .agg #[.int .i64 p.x, .int .i64 p.y], .int .i64 r] w fun e w' =>
      e = .returned (.tuple #[.int .i64 (RlV f p r), .int .i64 (RlE f p r)]) ∧ Below w.heap.size w w' := by
  obtain ⟨W, hW⟩ : ∃ W, W = (w.alloc (.cells #[.slice P.A f.poly.length P.c, .int .i64 f.fl, .int .i64 f.ce, .slice P.B f.rl.length P.d] 24)).alloc (.cells #[.int .i64 p.x, .int .i64 p.y] 39) := ⟨_, rfl⟩
  have HI := hid (show RI w w.heap.size P f p W from ⟨by rw [hW]; simp [go_sem], by rw [hW]; simp [go_sem], by rw [hW]; simp [go_sem], by rw [hW]; simp [go_sem], by rw [hW]; simp [go_sem], by rw [hW]; simp [go_sem], by rw [hW]; go_grown⟩)
  have HR := hid hr
  have HE := hid (show RlE f p r = if chk f ≠ 0 then chk f else if mayL [p.x, p.y] = false then 5 else if r < 0 then 1 else 0 from rfl)
  have HV := hid (show RlV f p r = if RlE f p r = 0 then (rlyK f p r f.rl.length).1 else 0 from rfl)
  clear hr
  obtain ⟨A, c, B, d⟩ := P
  dsimp only at hW ⊢
  go_enter Try.func25, Try.ntmps25
  go_wp2_with fail
  rw [← hW]
  clear hW
  refine (check_any ⟨A, c, B, d⟩ f W (HR.out.below HI.out.bl)).mono ?_
  rintro e w1 ⟨rfl, hb1⟩
  have HI1 := hid (HI.out.below hb1)
  clear HI hb1
  obtain ⟨u0, u1, u2, u3, u4, u5, hbl⟩ := HI1.out
  have HB1 := hid hbl
  clear hbl
  by_cases hc : chk f = 0
  · have hcb : (chk f != 0) = false := by simp [hc]
    have HC := hid hc
    clear hc
    have hlt : w.heap.size + 1 < w1.heap.size := World.block_lt_of_cell? w1 _ u5
    have hlt0 : w.heap.size < w1.heap.size := by omega
    cases hm : mayL [p.x, p.y] with
    | false =>
      have HM := hid hm
      clear hm
      go_wp2_with fail
      refine (may2 _ _ _ _ (by simp)).mono ?_
      rw [HM.out]
      rintro e w2 ⟨rfl, rfl⟩
      have he := HE.out
      rw [if_neg (by rw [HC.out]; simp), if_pos HM.out] at he
      have hv := HV.out
      rw [he] at hv
      replace he := hid he
      replace hv := hid hv
      go_wp2
      go_ret2
      exact ⟨by rw [hv.out, he.out]; rfl, HB1.out.alloc HB1.out.size _⟩
    | true =>
      have HM := hid hm
      clear hm
      by_cases hr0 : r < 0
      · go_wp2_with fail
        refine (may2 _ _ _ _ (by simp)).mono ?_
        rw [HM.out]
        rintro e w2 ⟨rfl, rfl⟩
        have he := HE.out
        rw [if_neg (by rw [HC.out]; simp), if_neg (by rw [HM.out]; simp), if_pos hr0] at he
        have hv := HV.out
        rw [he] at hv
        replace he := hid he
        replace hv := hid hv
        go_wp2
        go_ret2
        exact ⟨by rw [hv.out, he.out]; rfl, HB1.out.alloc HB1.out.size _⟩
      · have hr1 : 0 ≤ r := by omega
        have he := HE.out
        rw [if_neg (by rw [HC.out]; simp), if_neg (by rw [HM.out]; simp), if_neg hr0] at he
        have hv := HV.out
        rw [he, if_pos rfl] at hv
        replace he := hid he
        replace hv := hid hv
        have hl2 := HR.out.rll
        clear hr0
        go_wp2_with fail
        refine (may2 _ _ _ _ (by simp)).mono ?_
        rw [HM.out]
        rintro e w2 ⟨rfl, rfl⟩
        go_wp2_with fail
        go_loopw [9, 10, 11, 12, 13, 14, 32] (fun best near _ _ _ _ i wr => ∃ k : Nat, k ≤ f.rl.length ∧ i = .int .i64 k ∧ best = .int .i64 (rlyK f p r k).1 ∧ near = .int .i64 (rlyK f p r k).2 ∧ Hid (RI w w.heap.size ⟨A, c, B, d⟩ f p wr)) (fun _ _ _ _ _ _ i _ => f.rl.length - (intOf i).toNat)
        case atStart => exact ⟨0, Nat.zero_le _, rfl, rfl, rfl, hid (HI1.out.below ((Below.refl _ _).alloc (Nat.le_refl _) _))⟩
        case round =>
          obtain ⟨k, hk, rfl, rfl, rfl, hw⟩ := hrel
          clear u0 u1 u2 u3 u4 u5
          obtain ⟨u0, u1, u2, u3, u4, u5, hbl⟩ := hw.out
          have HBr := hid hbl
          clear hbl
          have hltr : w.heap.size + 1 < wr.heap.size := World.block_lt_of_cell? wr _ u5
          have hltr0 : w.heap.size < wr.heap.size := by omega
          by_cases hlt : k < f.rl.length
          · have hFR := HR.out.below HBr.out
            have hab := hFR.rl.some_ (by omega)
            dsimp only at hab
            obtain ⟨ad, rfl, hab⟩ := hab
            obtain ⟨hc1, hc2⟩ := hFR.rl.nat k hlt
            have hda : ad.block < wr.heap.size := hab
            have HFR := hid hFR
            clear hFR
            go_wp2_with fail
            refine (far_any p (npt f.rl k) _).mono ?_
            rintro e w5 ⟨rfl, hb5⟩
            have HI5 := hid ((hw.out.below ((Below.refl _ _).alloc (Nat.le_refl _) (.cells #[.int .i64 (npt f.rl k).x, .int .i64 (npt f.rl k).y] 39))).below hb5)
            have q0 := later_cell hb5 (show (wr.alloc (.cells #[.int .i64 (npt f.rl k).x, .int .i64 (npt f.rl k).y] 39)).cell? ⟨wr.heap.size, 0, none⟩ = some (.int .i64 (npt f.rl k).x) from cell_new wr _ 39 0)
            have q1 := later_cell hb5 (show (wr.alloc (.cells #[.int .i64 (npt f.rl k).x, .int .i64 (npt f.rl k).y] 39)).cell? ⟨wr.heap.size, 1, none⟩ = some (.int .i64 (npt f.rl k).y) from cell_new wr _ 39 1)
            clear hc1 hc2 hw hb5 u0 u1 u2 u3 u4 u5 HBr
            obtain ⟨u0, u1, u2, u3, u4, u5, hbl⟩ := HI5.out
            have HB5 := hid hbl
            have HF5 := hid (HR.out.below hbl)
            clear hbl
            have hyes := hid (@rly_yes f p r k)
            have hno := hid (@rly_no f p r k)
            have hfar := hid (@rly_far f p r k)
            by_cases hneg : (rlyK f p r k).1 < 0
            · cases hln : lnB f.poly p (npt f.rl k) r with
              | true =>
                have HLN := hid hln
                have HNX := hid (hyes.out (.inl hneg) hln)
                clear hln
                go_wp2_with fail
                refine (lane_in ⟨A, c, some ad, d⟩ f p (npt f.rl k) r _ HF5.out (chk_smp HC.out)).mono ?_
                rw [HLN.out]
                rintro e w6 ⟨rfl, hb6⟩
                have HI6 := hid (HI5.out.below hb6)
                clear u0 u1 u2 u3 u4 u5 q0 q1 hb6
                go_wp2
                go_roundw
                case rel => exact ⟨k + 1, by omega, by go_num, by rw [HNX.out], by rw [HNX.out], HI6⟩
                case measure => simp [intOf]; omega
              | false =>
                have HLN := hid hln
                have HNX := hid (hno.out hln)
                clear hln
                go_wp2_with fail
                refine (lane_in ⟨A, c, some ad, d⟩ f p (npt f.rl k) r _ HF5.out (chk_smp HC.out)).mono ?_
                rw [HLN.out]
                rintro e w6 ⟨rfl, hb6⟩
                have HI6 := hid (HI5.out.below hb6)
                clear u0 u1 u2 u3 u4 u5 q0 q1 hb6
                go_wp2
                go_roundw
                case rel => exact ⟨k + 1, by omega, by go_num, by rw [HNX.out], by rw [HNX.out], HI6⟩
                case measure => simp [intOf]; omega
            · have hneg' : 0 ≤ (rlyK f p r k).1 := by omega
              by_cases hd : farD p (npt f.rl k) < (rlyK f p r k).2
              · have hneg2 := hid hneg
                clear hneg
                cases hln : lnB f.poly p (npt f.rl k) r with
                | true =>
                  have HLN := hid hln
                  have HNX := hid (hyes.out (.inr hd) hln)
                  clear hln
                  go_wp2_with fail
                  refine (lane_in ⟨A, c, some ad, d⟩ f p (npt f.rl k) r _ HF5.out (chk_smp HC.out)).mono ?_
                  rw [HLN.out]
                  rintro e w6 ⟨rfl, hb6⟩
                  have HI6 := hid (HI5.out.below hb6)
                  clear u0 u1 u2 u3 u4 u5 q0 q1 hb6
                  go_wp2
                  go_roundw
                  case rel => exact ⟨k + 1, by omega, by go_num, by rw [HNX.out], by rw [HNX.out], HI6⟩
                  case measure => simp [intOf]; omega
                | false =>
                  have HLN := hid hln
                  have HNX := hid (hno.out hln)
                  clear hln
                  go_wp2_with fail
                  refine (lane_in ⟨A, c, some ad, d⟩ f p (npt f.rl k) r _ HF5.out (chk_smp HC.out)).mono ?_
                  rw [HLN.out]
                  rintro e w6 ⟨rfl, hb6⟩
                  have HI6 := hid (HI5.out.below hb6)
                  clear u0 u1 u2 u3 u4 u5 q0 q1 hb6
                  go_wp2
                  go_roundw
                  case rel => exact ⟨k + 1, by omega, by go_num, by rw [HNX.out], by rw [HNX.out], HI6⟩
                  case measure => simp [intOf]; omega
              · have HNX := hid (hfar.out hneg hd)
                have hd' : (rlyK f p r k).2 ≤ farD p (npt f.rl k) := by omega
                clear hneg hd
                go_wp2
                go_roundw
                case rel => exact ⟨k + 1, by omega, by go_num, by rw [HNX.out], by rw [HNX.out], HI5⟩
                case measure => simp [intOf]; omega
          · obtain rfl : k = f.rl.length := by omega
            go_wp2
            go_ret2
            exact ⟨by rw [hv.out, he.out]; rfl, HBr.out⟩
  · have hcb : (chk f != 0) = true := by simp [hc]
    have he := HE.out
    rw [if_pos hc] at he
    have hv := HV.out
    rw [he] at hv
    have HC := hid hc
    replace he := hid he
    replace hv := hid hv
    clear hc
    go_wp2
    go_ret2
    exact ⟨by rw [hv.out, he.out, if_neg HC.out]; rfl, HB1.out⟩
end Go.Proofs.Ytigcbldbolablaa
