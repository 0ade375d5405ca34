/- The chapter's examples stand: what 'awake' answers. -/
import Derived.Test.YtigcbldbolablaaA26
namespace Go.Proofs.Ytigcbldbolablaa
open Go.RowKit Go.Proofs.YtigcbldbolablaaW.PrintLast
set_option linter.unusedSimpArgs false

abbrev sma (P : FP) : Value := .agg #[.slice P.A 4 P.c, .int .i64 (-5), .int .i64 50, .slice P.B 3 P.d]
theorem holds_sm (P : FP) (b : Bx) (v : Bool) (w : World) (hr : FRd w P sm) (hv : HdV sm b = v) (he : HdE sm b = 0) :
    Calls Try.prog 21 #[sma P, .agg #[.int .i64 b.x.lo, .int .i64 b.x.hi, .int .i64 b.y.lo, .int .i64 b.y.hi, .int .i64 b.z.lo, .int .i64 b.z.hi]] w fun e w' => e = .returned (.tuple #[.bool v, .int .i64 0]) ∧ Below w.heap.size w w' := by
  have h := holds_any P sm b w hr
  rw [hv, he] at h
  exact h
theorem lane_sm (P : FP) (a b : Pt) (r : Int) (v : Bool) (w : World) (hr : FRd w P sm) (hv : LnV sm a b r = v) (he : LnE sm a b r = 0) :
    Calls Try.prog 23 #[sma P, .agg #[.int .i64 a.x, .int .i64 a.y], .agg #[.int .i64 b.x, .int .i64 b.y], .int .i64 r] w fun e w' => e = .returned (.tuple #[.bool v, .int .i64 0]) ∧ Below w.heap.size w w' := by
  have h := lane_any P sm a b r w hr
  rw [hv, he] at h
  exact h
theorem rally_sm (P : FP) (p : Pt) (r v : Int) (w : World) (hr : FRd w P sm) (hv : RlV sm p r = v) (he : RlE sm p r = 0) :
    Calls Try.prog 25 #[sma P, .agg #[.int .i64 p.x, .int .i64 p.y], .int .i64 r] w fun e w' => e = .returned (.tuple #[.int .i64 v, .int .i64 0]) ∧ Below w.heap.size w w' := by
  have h := rally_any P sm p r w hr
  rw [hv, he] at h
  exact h
/-- The small fence's bytes. -/
def smB : List UInt8 := (encB sm).map fun n => UInt8.ofNat n.toNat
theorem chk_sm : chk sm = 0 := by decide +kernel
theorem smB_len : smB.length = 66 := by decide +kernel
theorem dE_sm : dE smB = 0 := by decide +kernel
theorem dV_sm : dV smB = sm := by decide +kernel
theorem EnV_sm : EnV sm = ⟨smB.toArray⟩ := by unfold EnV; rw [if_pos chk_sm]; rfl
theorem chk_f0 : chk f0 = 90 := by decide +kernel
theorem encode_sm (P : FP) (w : World) (hr : FRd w P sm) :
    Calls Try.prog 27 #[sma P] w fun e w' => e = .returned (.tuple #[bst smB, .int .i64 0]) ∧ Below w.heap.size w w' := by
  have h := encode_any P sm w hr
  rw [EnV_sm, chk_sm] at h
  exact h
theorem decode_sm (w : World) : Calls Try.prog 29 #[bst smB] w fun e w' => ∃ P : FP, e = .returned (.tuple #[sma P, .int .i64 0]) ∧ Below w.heap.size w w' ∧ FRd w' P sm := by
  have h := decode_any smB w (by rw [smB_len]; omega)
  rw [dE_sm, dV_sm] at h
  refine h.mono ?_
  rintro e w' ⟨P, rfl, hb, ho⟩
  exact ⟨P, rfl, hb, pts_own ho.poly, pts_own ho.rl, by simp [sm], by simp [sm]⟩
theorem same_sm (P Q : FP) (w : World) (hf : FRd w P sm) (hg : FRd w Q sm) :
    Calls Try.prog 31 #[sma P, sma Q] w fun e w' => e = .returned (.bool true) ∧ Below w.heap.size w w' := by
  have h := same_any P Q sm sm w hf hg
  rw [decide_eq_true (rfl : sm = sm)] at h
  exact h
theorem check_f0 (w : World) : Calls Try.prog 18 #[.agg #[.slice none 0 0, .int .i64 0, .int .i64 0, .slice none 0 0]] w fun e w' => e = .returned (.int .i64 90) ∧ Below w.heap.size w w' := by
  have h := check_any ⟨none, 0, none, 0⟩ f0 w ⟨Pts.nil _ _, Pts.nil _ _, by simp [f0], by simp [f0]⟩
  rw [chk_f0] at h
  exact h
theorem h1 : HdV sm ⟨⟨1, 99⟩, ⟨1, 99⟩, ⟨-5, 50⟩⟩ = true := by decide +kernel
theorem h1e : HdE sm ⟨⟨1, 99⟩, ⟨1, 99⟩, ⟨-5, 50⟩⟩ = 0 := by decide +kernel
theorem h2 : HdV sm ⟨⟨0, 99⟩, ⟨1, 99⟩, ⟨-5, 50⟩⟩ = false := by decide +kernel
theorem h2e : HdE sm ⟨⟨0, 99⟩, ⟨1, 99⟩, ⟨-5, 50⟩⟩ = 0 := by decide +kernel
theorem l1 : LnV sm ⟨10, 10⟩ ⟨90, 90⟩ 9 = true := by decide +kernel
theorem l1e : LnE sm ⟨10, 10⟩ ⟨90, 90⟩ 9 = 0 := by decide +kernel
theorem l2 : LnV sm ⟨10, 10⟩ ⟨90, 90⟩ 10 = false := by decide +kernel
theorem l2e : LnE sm ⟨10, 10⟩ ⟨90, 90⟩ 10 = 0 := by decide +kernel
theorem r1 : RlV sm ⟨70, 70⟩ 15 = 2 := by decide +kernel
theorem r1e : RlE sm ⟨70, 70⟩ 15 = 0 := by decide +kernel

set_option maxRecDepth 100000 in
set_option maxHeartbeats 8000000 in
theorem awake_any (w : World) : Calls Try.prog 17 #[] w fun e w' => e = .returned (.bool true) ∧ Below w.heap.size w w' := by
  go_enter Try.func17, Try.ntmps17
  have B0 := hid (Below.refl w.heap.size w)
  go_wp2_with fail
  refine (small_any _).mono ?_
  rintro e w1 ⟨P1, rfl, hb, hr⟩
  have B1 := hid (below_then B0.out B0.out.size hb)
  have HR := hid hr
  clear hb hr B0
  go_wp2_with fail
  refine (box_any _ _ _ _ _ _ _).mono ?_
  rintro e w2 ⟨rfl, hb⟩
  have B2 := hid (below_then B1.out B1.out.size hb)
  replace HR := hid (HR.out.below hb)
  clear hb B1
  go_wp2_with fail
  refine (holds_sm P1 ⟨⟨1, 99⟩, ⟨1, 99⟩, ⟨-5, 50⟩⟩ true _ HR.out h1 h1e).mono ?_
  rintro e w3 ⟨rfl, hb⟩
  have B3 := hid (below_then B2.out B2.out.size hb)
  clear hb HR B2
  go_wp2_with fail
  refine (small_any _).mono ?_
  rintro e w4 ⟨P4, rfl, hb, hr⟩
  have B4 := hid (below_then B3.out B3.out.size hb)
  have HR := hid hr
  clear hb hr B3
  go_wp2_with fail
  refine (box_any _ _ _ _ _ _ _).mono ?_
  rintro e w5 ⟨rfl, hb⟩
  have B5 := hid (below_then B4.out B4.out.size hb)
  replace HR := hid (HR.out.below hb)
  clear hb B4
  go_wp2_with fail
  refine (holds_sm P4 ⟨⟨0, 99⟩, ⟨1, 99⟩, ⟨-5, 50⟩⟩ false _ HR.out h2 h2e).mono ?_
  rintro e w6 ⟨rfl, hb⟩
  have B6 := hid (below_then B5.out B5.out.size hb)
  clear hb HR B5
  go_wp2_with fail
  refine (small_any _).mono ?_
  rintro e w7 ⟨P7, rfl, hb, hr⟩
  have B7 := hid (below_then B6.out B6.out.size hb)
  have HR := hid hr
  clear hb hr B6
  go_wp2_with fail
  refine (at_any _ _ _).mono ?_
  rintro e w8 ⟨rfl, hb⟩
  have B8 := hid (below_then B7.out B7.out.size hb)
  replace HR := hid (HR.out.below hb)
  clear hb B7
  go_wp2_with fail
  refine (at_any _ _ _).mono ?_
  rintro e w9 ⟨rfl, hb⟩
  have B9 := hid (below_then B8.out B8.out.size hb)
  replace HR := hid (HR.out.below hb)
  clear hb B8
  go_wp2_with fail
  refine (lane_sm P7 ⟨10, 10⟩ ⟨90, 90⟩ 9 true _ HR.out l1 l1e).mono ?_
  rintro e w10 ⟨rfl, hb⟩
  have B10 := hid (below_then B9.out B9.out.size hb)
  clear hb HR B9
  go_wp2_with fail
  refine (small_any _).mono ?_
  rintro e w11 ⟨P11, rfl, hb, hr⟩
  have B11 := hid (below_then B10.out B10.out.size hb)
  have HR := hid hr
  clear hb hr B10
  go_wp2_with fail
  refine (at_any _ _ _).mono ?_
  rintro e w12 ⟨rfl, hb⟩
  have B12 := hid (below_then B11.out B11.out.size hb)
  replace HR := hid (HR.out.below hb)
  clear hb B11
  go_wp2_with fail
  refine (at_any _ _ _).mono ?_
  rintro e w13 ⟨rfl, hb⟩
  have B13 := hid (below_then B12.out B12.out.size hb)
  replace HR := hid (HR.out.below hb)
  clear hb B12
  go_wp2_with fail
  refine (lane_sm P11 ⟨10, 10⟩ ⟨90, 90⟩ 10 false _ HR.out l2 l2e).mono ?_
  rintro e w14 ⟨rfl, hb⟩
  have B14 := hid (below_then B13.out B13.out.size hb)
  clear hb HR B13
  go_wp2_with fail
  refine (small_any _).mono ?_
  rintro e w15 ⟨P15, rfl, hb, hr⟩
  have B15 := hid (below_then B14.out B14.out.size hb)
  have HR := hid hr
  clear hb hr B14
  go_wp2_with fail
  refine (at_any _ _ _).mono ?_
  rintro e w16 ⟨rfl, hb⟩
  have B16 := hid (below_then B15.out B15.out.size hb)
  replace HR := hid (HR.out.below hb)
  clear hb B15
  go_wp2_with fail
  refine (rally_sm P15 ⟨70, 70⟩ 15 2 _ HR.out r1 r1e).mono ?_
  rintro e w17 ⟨rfl, hb⟩
  have B17 := hid (below_then B16.out B16.out.size hb)
  clear hb HR B16
  go_wp2_with fail
  refine (small_any _).mono ?_
  rintro e w18 ⟨P18, rfl, hb, hr⟩
  have B18 := hid (below_then B17.out B17.out.size hb)
  have HR := hid hr
  clear hb hr B17
  go_wp2_with fail
  refine (encode_sm P18 _ HR.out).mono ?_
  rintro e w19 ⟨rfl, hb⟩
  have B19 := hid (below_then B18.out B18.out.size hb)
  clear hb HR B18
  go_wp2_with fail
  refine (decode_sm _).mono ?_
  rintro e w20 ⟨Q, rfl, hb, hr⟩
  have B20 := hid (below_then B19.out B19.out.size hb)
  have HQ := hid hr
  clear hb hr B19
  have hlen := smB_len
  go_wp2_with fail
  obtain ⟨W, hW⟩ : ∃ W, W = w20.alloc (.cells #[.slice Q.A 4 Q.c, .int .i64 (-5), .int .i64 50, .slice Q.B 3 Q.d] 24) := ⟨_, rfl⟩
  rw [← hW]
  have hs := hid (show W.drew.cell? ⟨w20.heap.size, 0, none⟩ = some (.slice Q.A 4 Q.c) ∧ W.drew.cell? ⟨w20.heap.size, 1, none⟩ = some (.int .i64 (-5)) ∧ W.drew.cell? ⟨w20.heap.size, 2, none⟩ = some (.int .i64 50) ∧ W.drew.cell? ⟨w20.heap.size, 3, none⟩ = some (.slice Q.B 3 Q.d) from by rw [hW]; exact cells4 (heap_alloc_new w20 _))
  have BW := hid (show Below w.heap.size w W.drew from by rw [hW]; exact (B20.out.alloc B20.out.size _).drew)
  have HW := hid (show FRd W.drew Q sm from by rw [hW]; exact HQ.out.below (((Below.refl _ _).alloc (Nat.le_refl _) _).drew))
  clear hW B20 HQ
  refine start_ (n := 35) (S := (fun w' => w'.cell? ⟨w20.heap.size, 0, none⟩ = some (.slice Q.A 4 Q.c) ∧ w'.cell? ⟨w20.heap.size, 1, none⟩ = some (.int .i64 (-5)) ∧ w'.cell? ⟨w20.heap.size, 2, none⟩ = some (.int .i64 50) ∧ w'.cell? ⟨w20.heap.size, 3, none⟩ = some (.slice Q.B 3 Q.d))) (ds := []) #[false, false, false, false, false, false, false, false, false, false, false, false, false, false, false, false, false, false, false, false, false, false, false, false, false, false, false, false, false, false, false, false, false, false, false] (by kernel_rfl) rfl rfl hs.out (fun hHeld => ?_)
  refine pure_ (i := 0) (N := some 84) (v := ?_) (a' := ?_) #[true, false, false, false, false, false, false, false, false, false, false, false, false, false, false, false, false, false, false, false, false, false, false, false, false, false, false, false, false, false, false, false, false, false, false] rfl rfl (by kernel_rfl) (fun _ _ _ h => h) (Or.inl ⟨by rfl, ?_⟩) ?_ ?_
  rotate_left
  · intro w'
    go_simp
    with_reducible rfl
  rotate_left
  · simp only [Act.put, List.setIfInBounds_toArray, List.set_cons_zero, List.set_cons_succ]
    rfl
  refine pure_ (i := 1) (N := some 85) (v := ?_) (a' := ?_) #[true, true, false, false, false, false, false, false, false, false, false, false, false, false, false, false, false, false, false, false, false, false, false, false, false, false, false, false, false, false, false, false, false, false, false] rfl rfl (by kernel_rfl) (fun _ _ _ h => h) (Or.inl ⟨by rfl, ?_⟩) ?_ ?_
  rotate_left
  · intro w'
    go_simp
    with_reducible rfl
  rotate_left
  · simp only [Act.put, List.setIfInBounds_toArray, List.set_cons_zero, List.set_cons_succ]
    rfl
  refine pure_ (i := 2) (N := some 86) (v := ?_) (a' := ?_) #[true, true, true, false, false, false, false, false, false, false, false, false, false, false, false, false, false, false, false, false, false, false, false, false, false, false, false, false, false, false, false, false, false, false, false] rfl rfl (by kernel_rfl) (fun _ _ _ h => h) (Or.inl ⟨by rfl, ?_⟩) ?_ ?_
  rotate_left
  · intro w'
    go_simp
    with_reducible rfl
  rotate_left
  · simp only [Act.put, List.setIfInBounds_toArray, List.set_cons_zero, List.set_cons_succ]
    rfl
  refine pure_ (i := 3) (N := some 87) (v := ?_) (a' := ?_) #[true, true, true, true, false, false, false, false, false, false, false, false, false, false, false, false, false, false, false, false, false, false, false, false, false, false, false, false, false, false, false, false, false, false, false] rfl rfl (by kernel_rfl) (fun _ _ _ h => h) (Or.inl ⟨by rfl, ?_⟩) ?_ ?_
  rotate_left
  · intro w'
    go_simp
    with_reducible rfl
  rotate_left
  · simp only [Act.put, List.setIfInBounds_toArray, List.set_cons_zero, List.set_cons_succ]
    rfl
  refine pure_ (i := 4) (N := some 88) (v := ?_) (a' := ?_) #[true, true, true, true, true, false, false, false, false, false, false, false, false, false, false, false, false, false, false, false, false, false, false, false, false, false, false, false, false, false, false, false, false, false, false] rfl rfl (by kernel_rfl) (fun _ _ _ h => h) (Or.inl ⟨by rfl, ?_⟩) ?_ ?_
  rotate_left
  · intro w'
    go_simp
    with_reducible rfl
  rotate_left
  · simp only [Act.put, List.setIfInBounds_toArray, List.set_cons_zero, List.set_cons_succ]
    rfl
  refine pure_ (i := 5) (N := some 89) (v := ?_) (a' := ?_) #[true, true, true, true, true, true, false, false, false, false, false, false, false, false, false, false, false, false, false, false, false, false, false, false, false, false, false, false, false, false, false, false, false, false, false] rfl rfl (by kernel_rfl) (fun _ _ _ h => h) (Or.inl ⟨by rfl, ?_⟩) ?_ ?_
  rotate_left
  · intro w'
    go_simp
    with_reducible rfl
  rotate_left
  · simp only [Act.put, List.setIfInBounds_toArray, List.set_cons_zero, List.set_cons_succ]
    rfl
  refine pure_ (i := 6) (N := some 90) (v := ?_) (a' := ?_) #[true, true, true, true, true, true, true, false, false, false, false, false, false, false, false, false, false, false, false, false, false, false, false, false, false, false, false, false, false, false, false, false, false, false, false] rfl rfl (by kernel_rfl) (fun _ _ _ h => h) (Or.inl ⟨by rfl, ?_⟩) ?_ ?_
  rotate_left
  · intro w'
    go_simp
    with_reducible rfl
  rotate_left
  · simp only [Act.put, List.setIfInBounds_toArray, List.set_cons_zero, List.set_cons_succ]
    rfl
  refine pure_ (i := 7) (N := some 91) (v := ?_) (a' := ?_) #[true, true, true, true, true, true, true, true, false, false, false, false, false, false, false, false, false, false, false, false, false, false, false, false, false, false, false, false, false, false, false, false, false, false, false] rfl rfl (by kernel_rfl) (fun _ _ _ h => h) (Or.inl ⟨by rfl, ?_⟩) ?_ ?_
  rotate_left
  · intro w'
    go_simp
    with_reducible rfl
  rotate_left
  · simp only [Act.put, List.setIfInBounds_toArray, List.set_cons_zero, List.set_cons_succ]
    rfl
  refine pure_ (i := 8) (N := some 92) (v := ?_) (a' := ?_) #[true, true, true, true, true, true, true, true, true, false, false, false, false, false, false, false, false, false, false, false, false, false, false, false, false, false, false, false, false, false, false, false, false, false, false] rfl rfl (by kernel_rfl) (fun _ _ _ h => h) (Or.inl ⟨by rfl, ?_⟩) ?_ ?_
  rotate_left
  · intro w'
    go_simp
    with_reducible rfl
  rotate_left
  · simp only [Act.put, List.setIfInBounds_toArray, List.set_cons_zero, List.set_cons_succ]
    rfl
  refine pure_ (i := 9) (N := some 93) (v := ?_) (a' := ?_) #[true, true, true, true, true, true, true, true, true, true, false, false, false, false, false, false, false, false, false, false, false, false, false, false, false, false, false, false, false, false, false, false, false, false, false] rfl rfl (by kernel_rfl) (fun _ _ _ h => h) (Or.inl ⟨by rfl, ?_⟩) ?_ ?_
  rotate_left
  · intro w'
    go_simp
    with_reducible rfl
  rotate_left
  · simp only [Act.put, List.setIfInBounds_toArray, List.set_cons_zero, List.set_cons_succ]
    rfl
  refine pure_ (i := 10) (N := some 94) (v := ?_) (a' := ?_) #[true, true, true, true, true, true, true, true, true, true, true, false, false, false, false, false, false, false, false, false, false, false, false, false, false, false, false, false, false, false, false, false, false, false, false] rfl rfl (by kernel_rfl) (fun _ _ _ h => h) (Or.inl ⟨by rfl, ?_⟩) ?_ ?_
  rotate_left
  · intro w'
    go_simp
    with_reducible rfl
  rotate_left
  · simp only [Act.put, List.setIfInBounds_toArray, List.set_cons_zero, List.set_cons_succ]
    rfl
  refine pure_ (i := 11) (N := some 95) (v := ?_) (a' := ?_) #[true, true, true, true, true, true, true, true, true, true, true, true, false, false, false, false, false, false, false, false, false, false, false, false, false, false, false, false, false, false, false, false, false, false, false] rfl rfl (by kernel_rfl) (fun _ _ _ h => h) (Or.inl ⟨by rfl, ?_⟩) ?_ ?_
  rotate_left
  · intro w'
    go_simp
    with_reducible rfl
  rotate_left
  · simp only [Act.put, List.setIfInBounds_toArray, List.set_cons_zero, List.set_cons_succ]
    rfl
  refine pure_ (i := 12) (N := some 96) (v := ?_) (a' := ?_) #[true, true, true, true, true, true, true, true, true, true, true, true, true, false, false, false, false, false, false, false, false, false, false, false, false, false, false, false, false, false, false, false, false, false, false] rfl rfl (by kernel_rfl) (fun _ _ _ h => h) (Or.inl ⟨by rfl, ?_⟩) ?_ ?_
  rotate_left
  · intro w'
    go_simp
    with_reducible rfl
  rotate_left
  · simp only [Act.put, List.setIfInBounds_toArray, List.set_cons_zero, List.set_cons_succ]
    rfl
  refine pure_ (i := 13) (N := some 97) (v := ?_) (a' := ?_) #[true, true, true, true, true, true, true, true, true, true, true, true, true, true, false, false, false, false, false, false, false, false, false, false, false, false, false, false, false, false, false, false, false, false, false] rfl rfl (by kernel_rfl) (fun _ _ _ h => h) (Or.inl ⟨by rfl, ?_⟩) ?_ ?_
  rotate_left
  · intro w'
    go_simp
    with_reducible rfl
  rotate_left
  · simp only [Act.put, List.setIfInBounds_toArray, List.set_cons_zero, List.set_cons_succ]
    rfl
  refine pure_ (i := 14) (N := some 98) (v := ?_) (a' := ?_) #[true, true, true, true, true, true, true, true, true, true, true, true, true, true, true, false, false, false, false, false, false, false, false, false, false, false, false, false, false, false, false, false, false, false, false] rfl rfl (by kernel_rfl) (fun _ _ _ h => h) (Or.inl ⟨by rfl, ?_⟩) ?_ ?_
  rotate_left
  · intro w'
    go_simp
    with_reducible rfl
  rotate_left
  · simp only [Act.put, List.setIfInBounds_toArray, List.set_cons_zero, List.set_cons_succ]
    rfl
  refine pure_ (i := 15) (N := some 99) (v := ?_) (a' := ?_) #[true, true, true, true, true, true, true, true, true, true, true, true, true, true, true, true, false, false, false, false, false, false, false, false, false, false, false, false, false, false, false, false, false, false, false] rfl rfl (by kernel_rfl) (fun _ _ _ h => h) (Or.inl ⟨by rfl, ?_⟩) ?_ ?_
  rotate_left
  · intro w'
    go_simp
    with_reducible rfl
  rotate_left
  · simp only [Act.put, List.setIfInBounds_toArray, List.set_cons_zero, List.set_cons_succ]
    rfl
  refine pure_ (i := 16) (N := some 100) (v := ?_) (a' := ?_) #[true, true, true, true, true, true, true, true, true, true, true, true, true, true, true, true, true, false, false, false, false, false, false, false, false, false, false, false, false, false, false, false, false, false, false] rfl rfl (by kernel_rfl) (fun _ _ _ h => h) (Or.inl ⟨by rfl, ?_⟩) ?_ ?_
  rotate_left
  · intro w'
    go_simp
    with_reducible rfl
  rotate_left
  · simp only [Act.put, List.setIfInBounds_toArray, List.set_cons_zero, List.set_cons_succ]
    rfl
  refine pure_ (i := 17) (N := some 101) (v := ?_) (a' := ?_) #[true, true, true, true, true, true, true, true, true, true, true, true, true, true, true, true, true, true, false, false, false, false, false, false, false, false, false, false, false, false, false, false, false, false, false] rfl rfl (by kernel_rfl) (fun _ _ _ h => h) (Or.inl ⟨by rfl, ?_⟩) ?_ ?_
  rotate_left
  · intro w'
    go_simp
    with_reducible rfl
  rotate_left
  · simp only [Act.put, List.setIfInBounds_toArray, List.set_cons_zero, List.set_cons_succ]
    rfl
  refine pure_ (i := 18) (N := some 102) (v := ?_) (a' := ?_) #[true, true, true, true, true, true, true, true, true, true, true, true, true, true, true, true, true, true, true, false, false, false, false, false, false, false, false, false, false, false, false, false, false, false, false] rfl rfl (by kernel_rfl) (fun _ _ _ h => h) (Or.inl ⟨by rfl, ?_⟩) ?_ ?_
  rotate_left
  · intro w'
    go_simp
    with_reducible rfl
  rotate_left
  · simp only [Act.put, List.setIfInBounds_toArray, List.set_cons_zero, List.set_cons_succ]
    rfl
  refine pure_ (i := 19) (N := some 103) (v := ?_) (a' := ?_) #[true, true, true, true, true, true, true, true, true, true, true, true, true, true, true, true, true, true, true, true, false, false, false, false, false, false, false, false, false, false, false, false, false, false, false] rfl rfl (by kernel_rfl) (fun _ _ _ h => h) (Or.inl ⟨by rfl, ?_⟩) ?_ ?_
  rotate_left
  · intro w'
    go_simp
    with_reducible rfl
  rotate_left
  · simp only [Act.put, List.setIfInBounds_toArray, List.set_cons_zero, List.set_cons_succ]
    rfl
  refine pure_ (i := 20) (N := some 104) (v := ?_) (a' := ?_) #[true, true, true, true, true, true, true, true, true, true, true, true, true, true, true, true, true, true, true, true, true, false, false, false, false, false, false, false, false, false, false, false, false, false, false] rfl rfl (by kernel_rfl) (fun _ _ _ h => h) (Or.inl ⟨by rfl, ?_⟩) ?_ ?_
  rotate_left
  · intro w'
    go_simp
    with_reducible rfl
  rotate_left
  · simp only [Act.put, List.setIfInBounds_toArray, List.set_cons_zero, List.set_cons_succ]
    rfl
  refine pure_ (i := 21) (N := some 105) (v := ?_) (a' := ?_) #[true, true, true, true, true, true, true, true, true, true, true, true, true, true, true, true, true, true, true, true, true, true, false, false, false, false, false, false, false, false, false, false, false, false, false] rfl rfl (by kernel_rfl) (fun _ _ _ h => h) (Or.inl ⟨by rfl, ?_⟩) ?_ ?_
  rotate_left
  · intro w'
    go_simp
    with_reducible rfl
  rotate_left
  · simp only [Act.put, List.setIfInBounds_toArray, List.set_cons_zero, List.set_cons_succ]
    rfl
  refine pure_ (i := 22) (N := some 106) (v := ?_) (a' := ?_) #[true, true, true, true, true, true, true, true, true, true, true, true, true, true, true, true, true, true, true, true, true, true, true, false, false, false, false, false, false, false, false, false, false, false, false] rfl rfl (by kernel_rfl) (fun _ _ _ h => h) (Or.inl ⟨by rfl, ?_⟩) ?_ ?_
  rotate_left
  · intro w'
    go_simp
    with_reducible rfl
  rotate_left
  · simp only [Act.put, List.setIfInBounds_toArray, List.set_cons_zero, List.set_cons_succ]
    rfl
  refine pure_ (i := 23) (N := some 107) (v := ?_) (a' := ?_) #[true, true, true, true, true, true, true, true, true, true, true, true, true, true, true, true, true, true, true, true, true, true, true, true, false, false, false, false, false, false, false, false, false, false, false] rfl rfl (by kernel_rfl) (fun _ _ _ h => h) (Or.inl ⟨by rfl, ?_⟩) ?_ ?_
  rotate_left
  · intro w'
    go_simp
    with_reducible rfl
  rotate_left
  · simp only [Act.put, List.setIfInBounds_toArray, List.set_cons_zero, List.set_cons_succ]
    rfl
  refine pure_ (i := 24) (N := some 108) (v := ?_) (a' := ?_) #[true, true, true, true, true, true, true, true, true, true, true, true, true, true, true, true, true, true, true, true, true, true, true, true, true, false, false, false, false, false, false, false, false, false, false] rfl rfl (by kernel_rfl) (fun _ _ _ h => h) (Or.inl ⟨by rfl, ?_⟩) ?_ ?_
  rotate_left
  · intro w'
    go_simp
    with_reducible rfl
  rotate_left
  · simp only [Act.put, List.setIfInBounds_toArray, List.set_cons_zero, List.set_cons_succ]
    rfl
  refine take_ (i := 25) (N := some 109) (v := ?_) (a' := ?_) #[true, true, true, true, true, true, true, true, true, true, true, true, true, true, true, true, true, true, true, true, true, true, true, true, true, true, false, false, false, false, false, false, false, false, false] rfl rfl (by kernel_rfl) (fun _ _ _ h => h) (Or.inl ⟨by rfl, ?_⟩) hHeld ?_ ?_
  rotate_left
  · intro w' hS'
    obtain ⟨s0, s1, s2, s3⟩ := hS'
    go_simp
    with_reducible rfl
  rotate_left
  · simp only [Act.put, List.setIfInBounds_toArray, List.set_cons_zero, List.set_cons_succ]
    rfl
  refine one_ (i := 26) (N := some 110) #[true, true, true, true, true, true, true, true, true, true, true, true, true, true, true, true, true, true, true, true, true, true, true, true, true, true, true, false, false, false, false, false, false, false, false] rfl rfl (by kernel_rfl) (by simp) (fun K hK => ?_)
  refine goes_ Try.func44 (by kernel_rfl) rfl #[] (by rfl) rfl rfl (by (try simp only [List.map_toArray, List.map_cons, List.map_nil]); first | done | rfl) ?_
  refine (small_any _).mono ?_
  rintro e v1 ⟨Q1, rfl, hb, hr⟩
  have hs1 := hid (⟨later_cell hb hs.out.1, later_cell hb hs.out.2.1, later_cell hb hs.out.2.2.1, later_cell hb hs.out.2.2.2⟩ : v1.cell? ⟨w20.heap.size, 0, none⟩ = some (.slice Q.A 4 Q.c) ∧ v1.cell? ⟨w20.heap.size, 1, none⟩ = some (.int .i64 (-5)) ∧ v1.cell? ⟨w20.heap.size, 2, none⟩ = some (.int .i64 50) ∧ v1.cell? ⟨w20.heap.size, 3, none⟩ = some (.slice Q.B 3 Q.d))
  have BV1 := hid (below_then BW.out BW.out.size hb)
  have HV1 := hid (HW.out.below hb)
  have HU1 := hid hr
  refine ⟨_, rfl, hK.out _ _ hs1.out (fun _ => ?_)⟩
  clear hK K hb hr
  refine one_ (i := 27) (N := some 111) #[true, true, true, true, true, true, true, true, true, true, true, true, true, true, true, true, true, true, true, true, true, true, true, true, true, true, true, true, false, false, false, false, false, false, false] rfl rfl (by kernel_rfl) (by simp) (fun K hK => ?_)
  refine goes_ Try.func31 (by kernel_rfl) rfl #[sma Q, sma Q1] (by rfl) rfl rfl (by (try simp only [List.map_toArray, List.map_cons, List.map_nil]); first | done | rfl) ?_
  refine (same_sm Q Q1 v1 HV1.out HU1.out).mono ?_
  rintro e v2 ⟨rfl, hb⟩
  have hs2 := hid (⟨later_cell hb hs1.out.1, later_cell hb hs1.out.2.1, later_cell hb hs1.out.2.2.1, later_cell hb hs1.out.2.2.2⟩ : v2.cell? ⟨w20.heap.size, 0, none⟩ = some (.slice Q.A 4 Q.c) ∧ v2.cell? ⟨w20.heap.size, 1, none⟩ = some (.int .i64 (-5)) ∧ v2.cell? ⟨w20.heap.size, 2, none⟩ = some (.int .i64 50) ∧ v2.cell? ⟨w20.heap.size, 3, none⟩ = some (.slice Q.B 3 Q.d))
  have BV2 := hid (below_then BV1.out BV1.out.size hb)
  refine ⟨_, rfl, hK.out _ _ hs2.out (fun _ => ?_)⟩
  clear hK K hb
  refine pure_ (i := 28) (N := some 112) (v := ?_) (a' := ?_) #[true, true, true, true, true, true, true, true, true, true, true, true, true, true, true, true, true, true, true, true, true, true, true, true, true, true, true, true, true, false, false, false, false, false, false] rfl rfl (by kernel_rfl) (fun _ _ _ h => h) (Or.inl ⟨by rfl, ?_⟩) ?_ ?_
  rotate_left
  · intro w'
    go_simp
    with_reducible rfl
  rotate_left
  · simp only [Act.put, List.setIfInBounds_toArray, List.set_cons_zero, List.set_cons_succ]
    rfl
  refine pure_ (i := 29) (N := some 113) (v := ?_) (a' := ?_) #[true, true, true, true, true, true, true, true, true, true, true, true, true, true, true, true, true, true, true, true, true, true, true, true, true, true, true, true, true, true, false, false, false, false, false] rfl rfl (by kernel_rfl) (fun _ _ _ h => h) (Or.inl ⟨by rfl, ?_⟩) ?_ ?_
  rotate_left
  · intro w'
    go_simp
    with_reducible rfl
  rotate_left
  · simp only [Act.put, List.setIfInBounds_toArray, List.set_cons_zero, List.set_cons_succ]
    rfl
  refine pure_ (i := 30) (N := some 114) (v := ?_) (a' := ?_) #[true, true, true, true, true, true, true, true, true, true, true, true, true, true, true, true, true, true, true, true, true, true, true, true, true, true, true, true, true, true, true, false, false, false, false] rfl rfl (by kernel_rfl) (fun _ _ _ h => h) (Or.inl ⟨by rfl, ?_⟩) ?_ ?_
  rotate_left
  · intro w'
    go_simp
    with_reducible rfl
  rotate_left
  · simp only [Act.put, List.setIfInBounds_toArray, List.set_cons_zero, List.set_cons_succ]
    rfl
  refine one_ (i := 31) (N := some 115) #[true, true, true, true, true, true, true, true, true, true, true, true, true, true, true, true, true, true, true, true, true, true, true, true, true, true, true, true, true, true, true, true, false, false, false] rfl rfl (by kernel_rfl) (by simp) (fun K hK => ?_)
  refine goes_ Try.func18 (by kernel_rfl) rfl #[.agg #[.slice none 0 0, .int .i64 0, .int .i64 0, .slice none 0 0]] (by rfl) rfl rfl (by (try simp only [List.map_toArray, List.map_cons, List.map_nil]); first | done | rfl) ?_
  refine (check_f0 v2).mono ?_
  rintro e v3 ⟨rfl, hb⟩
  have BV3 := hid (below_then BV2.out BV2.out.size hb)
  refine ⟨_, rfl, hK.out _ _ ⟨later_cell hb hs2.out.1, later_cell hb hs2.out.2.1, later_cell hb hs2.out.2.2.1, later_cell hb hs2.out.2.2.2⟩ (fun _ => ?_)⟩
  clear hK K hb
  refine pure_ (i := 32) (N := some 116) (v := ?_) (a' := ?_) #[true, true, true, true, true, true, true, true, true, true, true, true, true, true, true, true, true, true, true, true, true, true, true, true, true, true, true, true, true, true, true, true, true, false, false] rfl rfl (by kernel_rfl) (fun _ _ _ h => h) (Or.inl ⟨by rfl, ?_⟩) ?_ ?_
  rotate_left
  · intro w'
    go_simp
    with_reducible rfl
  rotate_left
  · simp only [Act.put, List.setIfInBounds_toArray, List.set_cons_zero, List.set_cons_succ]
    rfl
  refine pure_ (i := 33) (N := some 117) (v := ?_) (a' := ?_) #[true, true, true, true, true, true, true, true, true, true, true, true, true, true, true, true, true, true, true, true, true, true, true, true, true, true, true, true, true, true, true, true, true, true, false] rfl rfl (by kernel_rfl) (fun _ _ _ h => h) (Or.inl ⟨by rfl, ?_⟩) ?_ ?_
  rotate_left
  · intro w'
    go_simp
    with_reducible rfl
  rotate_left
  · simp only [Act.put, List.setIfInBounds_toArray, List.set_cons_zero, List.set_cons_succ]
    rfl
  refine pure_ (i := 34) (N := some 0) (v := ?_) (a' := ?_) #[true, true, true, true, true, true, true, true, true, true, true, true, true, true, true, true, true, true, true, true, true, true, true, true, true, true, true, true, true, true, true, true, true, true, true] rfl rfl (by kernel_rfl) (fun _ _ _ h => h) (Or.inl ⟨by rfl, ?_⟩) ?_ ?_
  rotate_left
  · intro w'
    go_simp
    with_reducible rfl
  rotate_left
  · simp only [Act.put, List.setIfInBounds_toArray, List.set_cons_zero, List.set_cons_succ]
    rfl
  refine done_ (by kernel_rfl) ?_
  go_wp2
  go_ret
  exact ⟨rfl, BV3.out⟩
end Go.Proofs.Ytigcbldbolablaa
