/- A fence's bytes: Encode. -/
import Derived.Test.YtigcbldbolablaaA20
namespace Go.Proofs.Ytigcbldbolablaa
open Go.RowKit Go.Proofs.YtigcbldbolablaaW.PrintLast
set_option linter.unusedSimpArgs false

theorem own_conv {w : World} {base m : Nat} {v : Value} {xs : List Int} (h : w.ownsRow base 5 1 v m (xs.map b8)) (hm : 0 < m) : (convert 82 9 v).run Try.prog w = .ok (.string (strOfNums xs)) w := by
  rcases h.2 with ⟨_, h5⟩ | ⟨g, cap, cur, rfl, hbg, hg, hnc, hcm, hcs, htake⟩
  · omega
  · have hlen : xs.length = m := by have := h.1; simpa using this
    refine run_convert_bytes_arg w 82 5 Try.underlying82 Try.underlying5 g 0 m cap xs hlen (fun i hi => ?_) 9 Try.underlying9
    rw [Nat.zero_add, World.ownsRow.cellAt h i (by omega), List.getElem?_map]
    simp [List.getD_eq_getElem?_getD, List.getElem?_eq_getElem (show i < xs.length by omega)]
/-- A fence's bytes. -/
def encB (f : Fn) : List Int := ptsB f.poly ++ (fb f.fl ++ (fb f.ce ++ ptsB f.rl))
def EnV (f : Fn) : ByteArray := if chk f = 0 then strOfNums (encB f) else ⟨#[]⟩
theorem lim_ok {fl ce : Int} {m : Nat} (h : lim fl ce m = 0) : m ≤ 8 := by
  unfold lim at h
  split at h
  · omega
  · split at h
    · omega
    · split at h
      · omega
      · split at h <;> omega
theorem chk_rl {f : Fn} (h : chk f = 0) : f.rl.length ≤ 8 := by
  have hs := chk_smp h
  unfold chk at h
  rw [if_neg (by rw [hs]; simp)] at h
  split at h
  · rename_i h1; exact absurd h h1
  · rename_i h1; exact lim_ok (Decidable.not_not.1 h1)

set_option maxRecDepth 100000 in
set_option maxHeartbeats 4000000 in
theorem encode_any (P : FP) (f : Fn) (w : World) (hr : FRd w P f) :
    Calls Try.prog 27 #[.agg #[.slice P.A f.poly.length P.c, .int .i64 f.fl, .int .i64 f.ce, .slice P.B f.rl.length P.d]] w fun e w' =>
      e = .returned (.tuple #[.string (EnV f), .int .i64 (chk f)]) ∧ Below w.heap.size w w' := by
  obtain ⟨W, hW⟩ : ∃ W, W = w.alloc (.cells #[.slice P.A f.poly.length P.c, .int .i64 f.fl, .int .i64 f.ce, .slice P.B f.rl.length P.d] 24) := ⟨_, rfl⟩
  have HW := hid (show Below w.heap.size w W by rw [hW]; go_grown)
  have v0 := hid (show W.cell? ⟨w.heap.size, 0, none⟩ = some (.slice P.A f.poly.length P.c) by rw [hW]; simp [go_sem])
  have v1 := hid (show W.cell? ⟨w.heap.size, 1, none⟩ = some (.int .i64 f.fl) by rw [hW]; simp [go_sem])
  have v2 := hid (show W.cell? ⟨w.heap.size, 2, none⟩ = some (.int .i64 f.ce) by rw [hW]; simp [go_sem])
  have v3 := hid (show W.cell? ⟨w.heap.size, 3, none⟩ = some (.slice P.B f.rl.length P.d) by rw [hW]; simp [go_sem])
  have HR := hid hr
  clear hr
  obtain ⟨A, c, B, d⟩ := P
  dsimp only at hW ⊢
  go_enter Try.func27, Try.ntmps27
  go_wp2_with fail
  rw [← hW]
  clear hW
  refine (check_any ⟨A, c, B, d⟩ f W (HR.out.below HW.out)).mono ?_
  rintro e w1 ⟨rfl, hb1⟩
  have u0 := later_cell hb1 v0.out
  have u1 := later_cell hb1 v1.out
  have u2 := later_cell hb1 v2.out
  have u3 := later_cell hb1 v3.out
  have HB1 := hid (below_then HW.out HW.out.size hb1)
  clear v0 v1 v2 v3 hb1
  have HR1 := hid (HR.out.below HB1.out)
  by_cases hc : chk f = 0
  · have hcb : (chk f != 0) = false := by simp [hc]
    have HC := hid hc
    have hrl := chk_rl hc
    have hpl := (smp_ok (chk_smp hc)).1
    have hpl2 := (smp_ok (chk_smp hc)).2.1
    clear hc
    have hlt : w.heap.size < w1.heap.size := World.block_lt_of_cell? w1 _ u0
    go_wp2_with fail
    refine (points_any w1.heap.size 0 (.slice none 0 0) [] A c f.poly _ (World.ownsRow_nil _ _ _ _) (by omega) (Nat.le_refl _) HR1.out.poly (fun h ad e => by obtain ⟨ad', e', hlt⟩ := HR1.out.poly.some_ h; dsimp only at e'; rw [e'] at e; cases e; exact hlt) hpl2).mono ?_
    rintro e w2 ⟨v2, rfl, ho2, hb2⟩
    have t1 := later_cell hb2 u1
    have t2 := later_cell hb2 u2
    have hB2 := hid hb2
    replace ho2 := hid ho2
    replace u0 := hid u0
    replace u3 := hid u3
    clear hb2 u1 u2
    go_wp2_with fail
    have hQ := hid (show w2.drew.cell? ⟨w.heap.size, 1, none⟩ = some (.int .i64 f.fl) ∧ w2.drew.cell? ⟨w.heap.size, 2, none⟩ = some (.int .i64 f.ce) from ⟨t1, t2⟩)
    clear t1 t2
    refine start_ (n := 8) (S := (fun w' => w'.cell? ⟨w.heap.size, 1, none⟩ = some (.int .i64 f.fl) ∧ w'.cell? ⟨w.heap.size, 2, none⟩ = some (.int .i64 f.ce))) (ds := [6]) #[false, false, false, false, false, false, false, false] (by kernel_rfl) rfl rfl hQ.out (fun hHeld => ?_)
    refine pure_ (i := 0) (N := some 14) (v := ?_) (a' := ?_) #[true, false, false, false, false, false, false, false] rfl rfl (by kernel_rfl) (fun _ _ _ h => h) (Or.inl ⟨by rfl, ?_⟩) ?_ ?_
    rotate_left
    · intro w'
      go_simp
      with_reducible rfl
    rotate_left
    · simp only [Act.put, List.setIfInBounds_toArray, List.set_cons_zero, List.set_cons_succ]
      rfl
    refine pure_ (i := 1) (N := some 15) (v := ?_) (a' := ?_) #[true, true, false, false, false, false, false, false] rfl rfl (by kernel_rfl) (fun _ _ _ h => h) (Or.inl ⟨by rfl, ?_⟩) ?_ ?_
    rotate_left
    · intro w'
      go_simp
      with_reducible rfl
    rotate_left
    · simp only [Act.put, List.setIfInBounds_toArray, List.set_cons_zero, List.set_cons_succ]
      rfl
    refine take_ (i := 2) (N := some 16) (v := ?_) (a' := ?_) #[true, true, true, false, false, false, false, false] rfl rfl (by kernel_rfl) (fun _ _ _ h => h) (Or.inl ⟨by rfl, ?_⟩) hHeld ?_ ?_
    rotate_left
    · intro w' hS'
      obtain ⟨s0, s1⟩ := hS'
      go_simp
      with_reducible rfl
    rotate_left
    · simp only [Act.put, List.setIfInBounds_toArray, List.set_cons_zero, List.set_cons_succ]
      rfl
    refine pure_ (i := 4) (N := some 18) (v := ?_) (a' := ?_) #[true, true, true, false, true, false, false, false] rfl rfl (by kernel_rfl) (fun _ _ _ h => h) (Or.inl ⟨by rfl, ?_⟩) ?_ ?_
    rotate_left
    · intro w'
      go_simp
      with_reducible rfl
    rotate_left
    · simp only [Act.put, List.setIfInBounds_toArray, List.set_cons_zero, List.set_cons_succ]
      rfl
    refine take_ (i := 5) (N := some 19) (v := ?_) (a' := ?_) #[true, true, true, false, true, true, false, false] rfl rfl (by kernel_rfl) (fun _ _ _ h => h) (Or.inl ⟨by rfl, ?_⟩) hHeld ?_ ?_
    rotate_left
    · intro w' hS'
      obtain ⟨s0, s1⟩ := hS'
      go_simp
      with_reducible rfl
    rotate_left
    · simp only [Act.put, List.setIfInBounds_toArray, List.set_cons_zero, List.set_cons_succ]
      rfl
    refine one_ (i := 3) (N := some 17) #[true, true, true, true, true, true, false, false] rfl rfl (by kernel_rfl) (by simp) (fun K hK => ?_)
    refine goes_ Try.func60 (by kernel_rfl) rfl #[v2, .int .i64 f.fl] (by rfl) rfl rfl (by (try simp only [List.map_toArray, List.map_cons, List.map_nil]); first | done | rfl) ?_
    refine (put_any w1.heap.size _ v2 _ f.fl w2.drew ho2.out (by omega) hB2.out.size).mono ?_
    rintro e w3 ⟨v3, rfl, ho3, hg3⟩
    have hne : ∀ k, v2.ownBlock = some k → w1.heap.size ≤ k := fun k e => (ho2.out.lt k e).1
    have hS3 : w3.cell? ⟨w.heap.size, 1, none⟩ = some (.int .i64 f.fl) ∧ w3.cell? ⟨w.heap.size, 2, none⟩ = some (.int .i64 f.ce) := ⟨hg3.cell hQ.out.1 (fun e => by have := hne w.heap.size e.symm; omega), hg3.cell hQ.out.2 (fun e => by have := hne w.heap.size e.symm; omega)⟩
    have hB3 := hid (below_grown hB2.out.drew hB2.out.size hg3 hne)
    refine ⟨_, rfl, hK.out _ _ hS3 (fun _ => ?_)⟩
    clear hK K
    refine last_ (i := 6) (N := some 20) #[true, true, true, true, true, true, true, false] rfl rfl (by kernel_rfl) (by simp) (fun K hK => ?_)
    refine goes_ Try.func60 (by kernel_rfl) rfl #[v3, .int .i64 f.ce] (by rfl) rfl rfl (by (try simp only [List.map_toArray, List.map_cons, List.map_nil]); first | done | rfl) ?_
    refine (put_any w1.heap.size _ v3 _ f.ce w3 ho3 (by omega) hB3.out.size).mono ?_
    rintro e w4 ⟨v4, rfl, ho4, hg4⟩
    have hB4 := hid (below_grown hB3.out hB3.out.size hg4 (fun k e => (ho3.lt k e).1))
    refine ⟨_, rfl, hK.out _ _ ?_⟩
    clear hK K
    refine pure_ (i := 7) (N := some 5) (v := ?_) (a' := ?_) #[true, true, true, true, true, true, true, true] rfl rfl (by kernel_rfl) (fun _ _ _ h => h) (Or.inl ⟨by rfl, ?_⟩) ?_ ?_
    rotate_left
    · intro w'
      go_simp
      with_reducible rfl
    rotate_left
    · simp only [Act.put, List.setIfInBounds_toArray, List.set_cons_zero, List.set_cons_succ]
      rfl
    refine done_ (by kernel_rfl) ?_
    have HO4 := hid ho4
    have z0 := (hB4.out.cell (p := ⟨w.heap.size, 0, none⟩) (World.block_lt_of_cell? w1 _ u0.out)).trans u0.out
    have z3 := (hB4.out.cell (p := ⟨w.heap.size, 3, none⟩) (World.block_lt_of_cell? w1 _ u3.out)).trans u3.out
    clear ho3 hg3 hS3 ho4 hg4 hne hQ
    go_wp2_with fail
    refine (points_any w1.heap.size _ v4 _ B d f.rl _ HO4.out (by omega) hB4.out.size (HR1.out.rl.below hB4.out) (fun h ad e => by obtain ⟨ad', e', hlt⟩ := HR1.out.rl.some_ h; dsimp only at e'; rw [e'] at e; cases e; exact hlt) (by omega)).mono ?_
    rintro e w5 ⟨v5, rfl, ho5, hb5⟩
    have hcv := own_conv ho5 (by omega)
    have HB5 := hid (show Below w.heap.size w w5 from (HB1.out.trans (hB4.out.mono HB1.out.size)).trans (hb5.mono HB1.out.size))
    have hen := hid (show strOfNums (ptsB f.poly ++ (fb f.fl ++ (fb f.ce ++ ptsB f.rl))) = EnV f by unfold EnV encB; rw [if_pos HC.out])
    clear z0 z3 hb5 ho5
    go_wp2
    go_ret2
    exact ⟨by rw [← hen.out, HC.out]; rfl, HB5.out⟩
  · have hcb : (chk f != 0) = true := by simp [hc]
    have hen := hid (show ⟨#[]⟩ = EnV f by unfold EnV; rw [if_neg hc])
    clear hc
    go_wp2
    go_ret2
    exact ⟨by rw [← hen.out]; rfl, HB1.out⟩
end Go.Proofs.Ytigcbldbolablaa
