/- The law VoteTurns, walked: it does not matter in which order the units stand. -/
import Derived.Test.YthhmamdgpfgpfaaP1
import Derived.Test.YthhmamdgpfgpfaaWLast
namespace Go.Proofs.Ythhmamdgpfgpfaa
open Go.RowKit Go.Proofs.YthhmamdgpfgpfaaW.PrintLast
set_option linter.unusedSimpArgs false
attribute [local go_sem] Oper.semAt_some

theorem sorted_eq : ∀ (l m : List Int), l.Pairwise (fun x y => x ≤ y) → m.Pairwise (fun x y => x ≤ y) → l.Perm m → l = m
  | [], _, _, _, h => (List.nil_perm.1 h).symm
  | a :: l, [], _, _, h => by have := h.length_eq; simp at this
  | a :: l, b :: m, hl, hm, h => by
    rw [List.pairwise_cons] at hl hm
    have ha : a ∈ b :: m := h.subset (by simp)
    have hb : b ∈ a :: l := h.symm.subset (by simp)
    have e : a = b := by
      rcases List.mem_cons.1 ha with e | e
      · exact e
      · rcases List.mem_cons.1 hb with e' | e'
        · exact e'.symm
        · have := hl.1 b e'
          have := hm.1 a e
          omega
    subst e
    rw [sorted_eq l m hl.2 hm.2 ((List.perm_cons a).1 h)]
theorem srt_eq {l m : List Int} (h : l.Perm m) : srt l = srt m :=
  sorted_eq _ _ (srt_ord l) (srt_ord m) ((srt_perm l).trans (h.trans (srt_perm m).symm))
theorem pick_perm {l m : List Int} (h : l.Perm m) : pick l = pick m := by
  unfold pick least most
  rw [srt_eq h, h.length_eq]
theorem spl_perm {l m : List Int} (a b : Int) (h : l.Perm m) : spl a b l = spl a b m := by
  unfold spl least most
  rw [srt_eq h, h.length_eq]
def rot1 (s : Vr) : Vr := ⟨s.stale, s.split, s.v1, s.v2, s.v0, s.a1, s.a2, s.a0, s.sp⟩
def rot2 (s : Vr) : Vr := ⟨s.stale, s.split, s.v2, s.v0, s.v1, s.a2, s.a0, s.a1, s.sp⟩
theorem rot1_perm (s : Vr) (r0 r1 r2 : Rd) : (vlK (rot1 s) r1 r2 r0 3).Perm (vlK s r0 r1 r2 3) := by
  rw [vl3, vl3, ← List.append_assoc]
  exact List.perm_append_comm
theorem rot2_perm (s : Vr) (r0 r1 r2 : Rd) : (vlK (rot2 s) r2 r0 r1 3).Perm (vlK s r0 r1 r2 3) := by
  rw [vl3, vl3, ← List.append_assoc (inc s.stale (na r0 s.a0) (nv r0 s.v0))]
  exact List.perm_append_comm
theorem rot1_fin (s : Vr) (r0 r1 r2 : Rd) : fin (rot1 s) r1 r2 r0 = rot1 (fin s r0 r1 r2) := by
  rw [fin_eq, fin_eq, spl_perm _ _ (rot1_perm s r0 r1 r2)]
  rfl
theorem rot2_fin (s : Vr) (r0 r1 r2 : Rd) : fin (rot2 s) r2 r0 r1 = rot2 (fin s r0 r1 r2) := by
  rw [fin_eq, fin_eq, spl_perm _ _ (rot2_perm s r0 r1 r2)]
  rfl
theorem rot1_ok {s : Vr} (h : s.ok) : (rot1 s).ok := ⟨h.st, h.st1, h.sp, h.n, h.a1, h.a2, h.a0, h.v1, h.v2, h.v0⟩
theorem rot2_ok {s : Vr} (h : s.ok) : (rot2 s).ok := ⟨h.st, h.st1, h.sp, h.n, h.a2, h.a0, h.a1, h.v2, h.v0, h.v1⟩
theorem rot1_step (b : Nat) (s : Vr) (r0 r1 r2 : Rd) (w : World) (hv : w.heap[b]? = some (vb (rot1 s))) (h : s.ok) (h0 : r0.wf) (h1 : r1.wf) (h2 : r2.wf) :
    Calls Try.prog 14 #[.pointer (some ⟨b, 0, none⟩), ub r1 r2 r0] w fun e w' =>
      e = .returned (.agg #[.bool (decide ((vlK s r0 r1 r2 3).length ≠ 0)), .int .i64 (pick (vlK s r0 r1 r2 3))]) ∧ Put w.heap.size w w' b (vb (rot1 (fin s r0 r1 r2))) := by
  have := step_ok b (rot1 s) r1 r2 r0 w hv (rot1_ok h) h1 h2 h0
  rw [pick_perm (rot1_perm s r0 r1 r2), (rot1_perm s r0 r1 r2).length_eq, rot1_fin] at this
  exact this
theorem rot2_step (b : Nat) (s : Vr) (r0 r1 r2 : Rd) (w : World) (hv : w.heap[b]? = some (vb (rot2 s))) (h : s.ok) (h0 : r0.wf) (h1 : r1.wf) (h2 : r2.wf) :
    Calls Try.prog 14 #[.pointer (some ⟨b, 0, none⟩), ub r2 r0 r1] w fun e w' =>
      e = .returned (.agg #[.bool (decide ((vlK s r0 r1 r2 3).length ≠ 0)), .int .i64 (pick (vlK s r0 r1 r2 3))]) ∧ Put w.heap.size w w' b (vb (rot2 (fin s r0 r1 r2))) := by
  have := step_ok b (rot2 s) r2 r0 r1 w hv (rot2_ok h) h2 h0 h1
  rw [pick_perm (rot2_perm s r0 r1 r2), (rot2_perm s r0 r1 r2).length_eq, rot2_fin] at this
  exact this
def rot0 (s : Vr) : Vr := s
theorem rot0_step (b : Nat) (s : Vr) (r0 r1 r2 : Rd) (w : World) (hv : w.heap[b]? = some (vb (rot0 s))) (h : s.ok) (h0 : r0.wf) (h1 : r1.wf) (h2 : r2.wf) :
    Calls Try.prog 14 #[.pointer (some ⟨b, 0, none⟩), ub r0 r1 r2] w fun e w' =>
      e = .returned (.agg #[.bool (decide ((vlK s r0 r1 r2 3).length ≠ 0)), .int .i64 (pick (vlK s r0 r1 r2 3))]) ∧ Put w.heap.size w w' b (vb (rot0 (fin s r0 r1 r2))) := step_ok b s r0 r1 r2 w hv h h0 h1 h2
theorem rot0_ages (b : Nat) (s : Vr) (w : World) (hv : w.heap[b]? = some (vb (rot0 s))) : Calls Try.prog 12 #[.pointer (some ⟨b, 0, none⟩)] w fun e w' => e = .returned (.agg #[.int .i64 s.a0, .int .i64 s.a1, .int .i64 s.a2]) ∧ Below w.heap.size w w' := ages_any b (rot0 s) w hv
theorem rot0_splits {w : World} {n : Later w} (b : Nat) (s : Vr) (hv : w.heap[b]? = some (vb (rot0 s))) : Calls Try.prog 13 #[.pointer (some ⟨b, 0, none⟩)] (lat w n) fun e w'' => e = .returned (.int .i64 s.sp) ∧ ∃ m : Later w, w'' = lat w m := splits_later b (rot0 s) hv
theorem rot1_ages (b : Nat) (s : Vr) (w : World) (hv : w.heap[b]? = some (vb (rot1 s))) : Calls Try.prog 12 #[.pointer (some ⟨b, 0, none⟩)] w fun e w' => e = .returned (.agg #[.int .i64 s.a1, .int .i64 s.a2, .int .i64 s.a0]) ∧ Below w.heap.size w w' := ages_any b (rot1 s) w hv
theorem rot1_splits {w : World} {n : Later w} (b : Nat) (s : Vr) (hv : w.heap[b]? = some (vb (rot1 s))) : Calls Try.prog 13 #[.pointer (some ⟨b, 0, none⟩)] (lat w n) fun e w'' => e = .returned (.int .i64 s.sp) ∧ ∃ m : Later w, w'' = lat w m := splits_later b (rot1 s) hv
theorem rot2_ages (b : Nat) (s : Vr) (w : World) (hv : w.heap[b]? = some (vb (rot2 s))) : Calls Try.prog 12 #[.pointer (some ⟨b, 0, none⟩)] w fun e w' => e = .returned (.agg #[.int .i64 s.a2, .int .i64 s.a0, .int .i64 s.a1]) ∧ Below w.heap.size w w' := ages_any b (rot2 s) w hv
theorem rot2_splits {w : World} {n : Later w} (b : Nat) (s : Vr) (hv : w.heap[b]? = some (vb (rot2 s))) : Calls Try.prog 13 #[.pointer (some ⟨b, 0, none⟩)] (lat w n) fun e w'' => e = .returned (.int .i64 s.sp) ∧ ∃ m : Later w, w'' = lat w m := splits_later b (rot2 s) hv
abbrev tkb (t : Tk) : Obj := .cells #[.bool t.r0.ok, .int .i64 t.r0.x, .bool t.r1.ok, .int .i64 t.r1.x, .bool t.r2.ok, .int .i64 t.r2.x] 38 (0, 0)
/-- What stands behind both ticks. -/
def AftB (N M : Nat) (s u : Vr) (g : Nat) (o : Bool) (x : Int) (W1 : World) (b : Nat) (w' : World) : Prop := w'.heap[N]? = some (vb s) ∧ w'.heap[M]? = some (vb u) ∧ w'.heap[g]? = some (rb o x) ∧ w'.heap[b]? = some (rb o x) ∧ Below W1.heap.size W1 w'
theorem rb_set2 {w : World} {b : Nat} {p : Bool} {y : Int} (o : Bool) (x : Int) (h : w.heap[b]? = some (rb p y)) : ((w.setCell ⟨b, 0, none⟩ (.bool o)).setCell ⟨b, 1, none⟩ (.int .i64 x)).heap[b]? = some (rb o x) := by
  rw [heap_setCell_same _ _ _ _ _ _ (heap_setCell_same _ _ _ _ _ _ h)]
  rfl
theorem set2_other {w : World} {b g : Nat} {o : Obj} {x y : Value} (h : w.heap[b]? = some o) (hn : b ≠ g) : ((w.setCell ⟨g, 0, none⟩ x).setCell ⟨g, 1, none⟩ y).heap[b]? = some o := by
  rw [heap_setCell_other _ _ _ _ hn, heap_setCell_other _ _ _ _ hn]
  exact h
theorem set2_below {B : Nat} {w w' : World} {g : Nat} {x y : Value} (h : Below B w w') (hg : B ≤ g) : Below B w ((w'.setCell ⟨g, 0, none⟩ x).setCell ⟨g, 1, none⟩ y) := (h.setCell hg _).setCell hg _
abbrev agb (x y z : Int) : Obj := .cells #[.int .i64 x, .int .i64 y, .int .i64 z] 27 (0, 0)
theorem tkb_cells {w : World} {b : Nat} {t : Tk} (h : w.heap[b]? = some (tkb t)) : w.cell? ⟨b, 0, none⟩ = some (.bool t.r0.ok) ∧ w.cell? ⟨b, 1, none⟩ = some (.int .i64 t.r0.x) ∧ w.cell? ⟨b, 2, none⟩ = some (.bool t.r1.ok) ∧ w.cell? ⟨b, 3, none⟩ = some (.int .i64 t.r1.x) ∧ w.cell? ⟨b, 4, none⟩ = some (.bool t.r2.ok) ∧ w.cell? ⟨b, 5, none⟩ = some (.int .i64 t.r2.x) := by
  simp [World.cell?, h]
theorem agb_cells {w : World} {b : Nat} {x y z : Int} (h : w.heap[b]? = some (agb x y z)) : w.cell? ⟨b, 0, none⟩ = some (.int .i64 x) ∧ w.cell? ⟨b, 1, none⟩ = some (.int .i64 y) ∧ w.cell? ⟨b, 2, none⟩ = some (.int .i64 z) := by
  simp [World.cell?, h]

set_option maxRecDepth 100000 in
set_option maxHeartbeats 8000000 in
theorem turns_walk (stale split turn : Int) (A : Option Addr) (n c : Nat) (ts : List Tk) (w : World) (hsp : i64 split) (hts : Tks w A ts) (hn : ts.length = n) (hmax : n ≤ 9223372036854775807) :
    Calls Try.prog 5 #[.agg #[.int .i64 stale, .slice A n c], .int .i64 split, .int .i64 turn] w fun e w' => e = .returned (.bool true) ∧ Below w.heap.size w w' := by
  replace hts := hid hts
  by_cases hbad : stale < 0 ∨ 65535 ≤ stale ∨ split < 0
  · go_enter Try.func5, Try.ntmps5
    go_wp2_with fail
    refine (new_no stale split _ hbad).mono ?_
    rintro e w1 ⟨rfl, hw1⟩
    rw [hw1]
    clear hw1
    go_wp2_with fail
    refine (new_no stale split _ hbad).mono ?_
    rintro e w2 ⟨rfl, hw2⟩
    rw [hw2]
    clear hw2
    go_wp2_with fail
    refine (awake_any _).mono ?_
    rintro e w3 ⟨rfl, hb3⟩
    have hb3 := hid (show Below w.heap.size w w3 from Below.trans (by go_grown) (hb3.mono (by simp)))
    go_wp2
    go_ret
    exact ⟨rfl, hb3.out⟩
  · have hs0 : 0 ≤ stale := by omega
    have hs1 : stale < 65535 := by omega
    have hp0 : 0 ≤ split := by omega
    clear hbad
    go_enter Try.func5, Try.ntmps5
    go_wp2_with fail
    obtain ⟨W1, hW1⟩ : ∃ W1, W1 = w.alloc (.cells #[.int .i64 stale, .slice A n c] 41) := ⟨_, rfl⟩
    have hz1 : W1.heap.size = w.heap.size + 1 := by rw [hW1]; simp
    have hw1 : Below w.heap.size w W1 := by rw [hW1]; go_grown
    have x0 : W1.cell? ⟨w.heap.size, 1, none⟩ = some (.slice A n c) := by rw [hW1]; simp [go_sem]
    have y0 : W1.cell? ⟨w.heap.size, 0, none⟩ = some (.int .i64 stale) := by rw [hW1]; simp [go_sem]
    have ht1 := hid (hts.out.below hw1)
    refine (new_yes stale split _ hs0 hs1 hp0 (by have := hsp.2; omega)).mono ?_
    rintro e w2 ⟨rfl, hw2⟩
    rw [← hW1] at hw2
    have hv2 : w2.heap[w.heap.size + 1]? = some (vb (new0 stale split)) := by rw [hw2, ← hz1]; exact heap_alloc_new W1 _
    have hb2 : Below W1.heap.size W1 w2 := by rw [hw2]; go_grown
    have hz2 : w2.heap.size = w.heap.size + 1 + 1 := by rw [hw2]; simp [hz1]
    have y2 := (hb2.cell (World.block_lt_of_cell? W1 _ y0)).trans y0
    clear hw2
    replace hW1 := hid hW1
    replace hw1 := hid hw1
    replace x0 := hid x0
    replace hv2 := hid hv2
    replace hb2 := hid hb2
    clear y0
    go_wp2_with fail
    refine (new_yes stale split _ hs0 hs1 hp0 (by have := hsp.2; omega)).mono ?_
    rintro e w3 ⟨rfl, hw3⟩
    have hv3 : w3.heap[w.heap.size + 1]? = some (vb (new0 stale split)) := by rw [hw3]; exact carry_a hv2.out
    have hu3 : w3.heap[w.heap.size + 1 + 1]? = some (vb (new0 stale split)) := by rw [hw3, ← hz2]; exact heap_alloc_new w2 _
    have hb3 : Below W1.heap.size W1 w3 := by rw [hw3]; exact hb2.out.alloc hb2.out.size _
    clear hw3 y2 hv2 hb2
    rw [hz2]
    replace hv3 := hid hv3
    replace hu3 := hid hu3
    replace hb3 := hid hb3
    have q27 := eq27
    have q36 := eq36
    go_upto_region 7 with fail
    have hk3 : turn.tmod 3 = 0 ∨ turn.tmod 3 = 1 ∨ turn.tmod 3 = 2 ∨ turn.tmod 3 = -1 ∨ turn.tmod 3 = -2 := by
      have h1 := Int.tmod_lt_of_pos turn (by decide : (0 : Int) < 3)
      have h2 := Int.tmod_lt_of_pos (-turn) (by decide : (0 : Int) < 3)
      rw [Int.neg_tmod] at h2
      omega
    rcases hk3 with hk | hk | hk | hk | hk
    · go_wp2_with fail
      go_loopw [12] (fun v12 wr => ∃ (i : Nat) (s : Vr), v12 = .int .i64 i ∧ i ≤ n ∧ Hid s.ok ∧ Hid (wr.heap[w.heap.size + 1]? = some (vb s)) ∧ Hid (wr.heap[w.heap.size + 1 + 1]? = some (vb (rot0 s))) ∧ Hid (Below W1.heap.size W1 wr)) (fun v _ => n - (intOf v).toNat)
      case atStart => exact ⟨0, new0 stale split, rfl, by omega, hid (new0_ok hs0 hs1 hp0), hv3, hu3, hb3⟩
      case round =>
        obtain ⟨i, s, rfl, hi, hok, hv, hu, hb⟩ := hrel
        clear hv3 hu3 hb3
        obtain ⟨wo, rfl⟩ : ∃ wo, wo = wr := ⟨_, rfl⟩
        have x1 := (hb.out.cell (World.block_lt_of_cell? W1 _ x0.out)).trans x0.out
        have hzr := hb.out.size
        rw [hz1] at hzr
        by_cases hlt : i < n
        · obtain ⟨t, ht⟩ : ∃ t, ts[i]? = some t := ⟨ts[i]'(by omega), List.getElem?_eq_getElem (by omega)⟩
          obtain ⟨bb, off, rfl, hbb, twf, t0, t1, t2, t3, t4, t5⟩ := ht1.out.below hb.out i t ht
          replace ht := hid ht
          replace twf := hid twf
          have hNv := heap_lt hv.out
          have hNu := heap_lt hu.out
          go_wp2_with fail
          refine (step_ok (w.heap.size + 1) s t.r0 t.r1 t.r2 _ (carry_a hv.out) hok.out twf.out.1 twf.out.2.1 twf.out.2.2).mono ?_
          rintro e w4 ⟨rfl, hp⟩
          have hv4 := hid hp.at_
          have hu4 := hid (carry_p hp (carry_a hu.out) (by omega))
          have ht4 := hid (carry_p hp (heap_alloc_new wo (tkb t)) (by omega))
          have hb4 := hid ((hb.out.alloc hb.out.size (tkb t)).trans ((hp.mono (by simp; omega)).below (by omega)))
          have hstepu := hid (fun W h => rot0_step (w.heap.size + 1 + 1) s t.r0 t.r1 t.r2 W h hok.out twf.out.1 twf.out.2.1 twf.out.2.2)
          have hok4 := hid (fin_ok hok.out twf.out.1 twf.out.2.1 twf.out.2.2)
          generalize decide ((vlK s t.r0 t.r1 t.r2 3).length ≠ 0) = o at *
          generalize pick (vlK s t.r0 t.r1 t.r2 3) = x at *
          generalize fin s t.r0 t.r1 t.r2 = s4 at *
          clear hp hv hu hb t0 t1 t2 t3 t4 t5 x1
          have hT4 := hid (carry_a (o' := rb o x) ht4.out)
          obtain ⟨k0, k1, k2, k3, k4, k5⟩ := tkb_cells hT4.out
          have hV4 := hid (carry_a (o' := rb o x) hv4.out)
          have hU4 := hid (carry_a (o' := rb o x) hu4.out)
          have hA4 := hid (heap_alloc_new w4 (rb o x))
          have hB4 := hid (hb4.out.alloc hb4.out.size (rb o x))
          have hn1 : w4.heap.size ≠ w.heap.size + 1 + 1 := by have := heap_lt hu4.out; omega
          replace hn1 := hid hn1
          clear hv4 hu4 ht4 hb4
          go_wp2_with fail
          generalize w4.alloc (rb o x) = W at *
          generalize w4.heap.size = g at *
          have hT_ : (fun w' : World => w'.heap[wo.heap.size]? = some (tkb t)) W.drew := hT4.out
          refine start_ (n := 18) (S := (fun w' => w'.heap[wo.heap.size]? = some (tkb t))) (ds := []) #[false, false, false, false, false, false, false, false, false, false, false, false, false, false, false, false, false, false] (by kernel_rfl) rfl rfl hT_ (fun hHeld => ?_)
          refine pure_ (i := 0) (N := some 77) (v := (.pointer (some ⟨w.heap.size + 1 + 1, 0, none⟩))) (a' := ?_) #[true, false, false, false, false, false, false, false, false, false, false, false, false, false, false, false, false, false] rfl rfl (by kernel_rfl) (fun _ _ _ h => h) (Or.inl ⟨by rfl, ?_⟩) ?_ ?_
          · intro w'
            go_simp
            try (first | with_reducible rfl | rfl | (simp; done))
          rotate_left
          · simp only [Act.put, List.setIfInBounds_toArray, List.set_cons_zero, List.set_cons_succ]
            rfl
          refine pure_ (i := 1) (N := some 78) (v := (.int .i64 0)) (a' := ?_) #[true, true, false, false, false, false, false, false, false, false, false, false, false, false, false, false, false, false] rfl rfl (by kernel_rfl) (fun _ _ _ h => h) (Or.inl ⟨by rfl, ?_⟩) ?_ ?_
          · intro w'
            go_simp
            try (first | with_reducible rfl | rfl | (simp; done))
          rotate_left
          · simp only [Act.put, List.setIfInBounds_toArray, List.set_cons_zero, List.set_cons_succ]
            rfl
          refine pure_ (i := 2) (N := some 79) (v := (.pointer (some ⟨wo.heap.size, 0, none⟩))) (a' := ?_) #[true, true, true, false, false, false, false, false, false, false, false, false, false, false, false, false, false, false] rfl rfl (by kernel_rfl) (fun _ _ _ h => h) (Or.inl ⟨by rfl, ?_⟩) ?_ ?_
          · intro w'
            go_simp
            try (first | with_reducible rfl | rfl | (simp; done))
          rotate_left
          · simp only [Act.put, List.setIfInBounds_toArray, List.set_cons_zero, List.set_cons_succ]
            rfl
          refine take_ (i := 3) (N := some 80) (v := (.agg #[.bool t.r0.ok, .int .i64 t.r0.x])) (a' := ?_) #[true, true, true, true, false, false, false, false, false, false, false, false, false, false, false, false, false, false] rfl rfl (by kernel_rfl) (fun _ _ _ h => h) (Or.inl ⟨by rfl, ?_⟩) hHeld ?_ ?_
          · intro w' hS'
            obtain ⟨s0, s1, s2, s3, s4', s5⟩ := tkb_cells hS'
            go_simp
            try (first | with_reducible rfl | rfl | (simp; done))
          rotate_left
          · simp only [Act.put, List.setIfInBounds_toArray, List.set_cons_zero, List.set_cons_succ]
            rfl
          refine pure_ (i := 4) (N := some 81) (v := (.int .i64 0)) (a' := ?_) #[true, true, true, true, true, false, false, false, false, false, false, false, false, false, false, false, false, false] rfl rfl (by kernel_rfl) (fun _ _ _ h => h) (Or.inl ⟨by rfl, ?_⟩) ?_ ?_
          · intro w'
            go_simp
            try (first | with_reducible rfl | rfl | (simp; done))
          rotate_left
          · simp only [Act.put, List.setIfInBounds_toArray, List.set_cons_zero, List.set_cons_succ]
            rfl
          refine pure_ (i := 5) (N := some 82) (v := (.int .i64 1)) (a' := ?_) #[true, true, true, true, true, true, false, false, false, false, false, false, false, false, false, false, false, false] rfl rfl (by kernel_rfl) (fun _ _ _ h => h) (Or.inl ⟨by rfl, ?_⟩) ?_ ?_
          · intro w'
            go_simp
            try (first | with_reducible rfl | rfl | (simp; done))
          rotate_left
          · simp only [Act.put, List.setIfInBounds_toArray, List.set_cons_zero, List.set_cons_succ]
            rfl
          refine pure_ (i := 6) (N := some 83) (v := (.int .i64 1)) (a' := ?_) #[true, true, true, true, true, true, true, false, false, false, false, false, false, false, false, false, false, false] rfl rfl (by kernel_rfl) (fun _ _ _ h => h) (Or.inl ⟨by rfl, ?_⟩) ?_ ?_
          · intro w'
            go_simp
            try (first | with_reducible rfl | rfl | (simp; done))
          rotate_left
          · simp only [Act.put, List.setIfInBounds_toArray, List.set_cons_zero, List.set_cons_succ]
            rfl
          refine pure_ (i := 7) (N := some 84) (v := (.pointer (some ⟨wo.heap.size, 2, none⟩))) (a' := ?_) #[true, true, true, true, true, true, true, true, false, false, false, false, false, false, false, false, false, false] rfl rfl (by kernel_rfl) (fun _ _ _ h => h) (Or.inl ⟨by rfl, ?_⟩) ?_ ?_
          · intro w'
            go_simp
            try (first | with_reducible rfl | rfl | (simp; done))
          rotate_left
          · simp only [Act.put, List.setIfInBounds_toArray, List.set_cons_zero, List.set_cons_succ]
            rfl
          refine take_ (i := 8) (N := some 85) (v := (.agg #[.bool t.r1.ok, .int .i64 t.r1.x])) (a' := ?_) #[true, true, true, true, true, true, true, true, true, false, false, false, false, false, false, false, false, false] rfl rfl (by kernel_rfl) (fun _ _ _ h => h) (Or.inl ⟨by rfl, ?_⟩) hHeld ?_ ?_
          · intro w' hS'
            obtain ⟨s0, s1, s2, s3, s4', s5⟩ := tkb_cells hS'
            go_simp
            try (first | with_reducible rfl | rfl | (simp; done))
          rotate_left
          · simp only [Act.put, List.setIfInBounds_toArray, List.set_cons_zero, List.set_cons_succ]
            rfl
          refine pure_ (i := 9) (N := some 86) (v := (.int .i64 0)) (a' := ?_) #[true, true, true, true, true, true, true, true, true, true, false, false, false, false, false, false, false, false] rfl rfl (by kernel_rfl) (fun _ _ _ h => h) (Or.inl ⟨by rfl, ?_⟩) ?_ ?_
          · intro w'
            go_simp
            try (first | with_reducible rfl | rfl | (simp; done))
          rotate_left
          · simp only [Act.put, List.setIfInBounds_toArray, List.set_cons_zero, List.set_cons_succ]
            rfl
          refine pure_ (i := 10) (N := some 87) (v := (.int .i64 2)) (a' := ?_) #[true, true, true, true, true, true, true, true, true, true, true, false, false, false, false, false, false, false] rfl rfl (by kernel_rfl) (fun _ _ _ h => h) (Or.inl ⟨by rfl, ?_⟩) ?_ ?_
          · intro w'
            go_simp
            try (first | with_reducible rfl | rfl | (simp; done))
          rotate_left
          · simp only [Act.put, List.setIfInBounds_toArray, List.set_cons_zero, List.set_cons_succ]
            rfl
          refine pure_ (i := 11) (N := some 88) (v := (.int .i64 2)) (a' := ?_) #[true, true, true, true, true, true, true, true, true, true, true, true, false, false, false, false, false, false] rfl rfl (by kernel_rfl) (fun _ _ _ h => h) (Or.inl ⟨by rfl, ?_⟩) ?_ ?_
          · intro w'
            go_simp
            try (first | with_reducible rfl | rfl | (simp; done))
          rotate_left
          · simp only [Act.put, List.setIfInBounds_toArray, List.set_cons_zero, List.set_cons_succ]
            rfl
          refine pure_ (i := 12) (N := some 89) (v := (.pointer (some ⟨wo.heap.size, 4, none⟩))) (a' := ?_) #[true, true, true, true, true, true, true, true, true, true, true, true, true, false, false, false, false, false] rfl rfl (by kernel_rfl) (fun _ _ _ h => h) (Or.inl ⟨by rfl, ?_⟩) ?_ ?_
          · intro w'
            go_simp
            try (first | with_reducible rfl | rfl | (simp; done))
          rotate_left
          · simp only [Act.put, List.setIfInBounds_toArray, List.set_cons_zero, List.set_cons_succ]
            rfl
          refine take_ (i := 13) (N := some 90) (v := (.agg #[.bool t.r2.ok, .int .i64 t.r2.x])) (a' := ?_) #[true, true, true, true, true, true, true, true, true, true, true, true, true, true, false, false, false, false] rfl rfl (by kernel_rfl) (fun _ _ _ h => h) (Or.inl ⟨by rfl, ?_⟩) hHeld ?_ ?_
          · intro w' hS'
            obtain ⟨s0, s1, s2, s3, s4', s5⟩ := tkb_cells hS'
            go_simp
            try (first | with_reducible rfl | rfl | (simp; done))
          rotate_left
          · simp only [Act.put, List.setIfInBounds_toArray, List.set_cons_zero, List.set_cons_succ]
            rfl
          refine pure_ (i := 14) (N := some 91) (v := (ub t.r0 t.r1 t.r2)) (a' := ?_) #[true, true, true, true, true, true, true, true, true, true, true, true, true, true, true, false, false, false] rfl rfl (by kernel_rfl) (fun _ _ _ h => h) (Or.inl ⟨by rfl, ?_⟩) ?_ ?_
          · intro w'
            go_simp
            try (first | with_reducible rfl | rfl | (simp; done))
          rotate_left
          · simp only [Act.put, List.setIfInBounds_toArray, List.set_cons_zero, List.set_cons_succ]
            rfl
          refine join_ (σ := Nat) 0 #[true, true, true, true, true, true, true, true, true, true, true, true, true, true, true, true, true, true] (fun b => [(92, (.agg #[.bool o, .int .i64 x])), (15, .pointer (some ⟨b, 0, none⟩))]) (AftB (w.heap.size + 1) (w.heap.size + 1 + 1) s4 (rot0 s4) g o x W1) ?_ ?_
          · rintro b5 W5 hF
            refine norm_ (a' := ?_) ?_ ?_
            rotate_left
            · simp only [putAll, Act.put, List.setIfInBounds_toArray, List.set_cons_zero, List.set_cons_succ]
              rfl
            refine done_ (by kernel_rfl) ?_
            obtain ⟨hv5, hu5, ha5, hc5, hB5⟩ := hF
            replace hv5 := hid hv5
            replace hu5 := hid hu5
            replace ha5 := hid ha5
            replace hc5 := hid hc5
            replace hB5 := hid hB5
            clear hV4 hU4 hA4 hB4 hT4 hT_ hstepu hHeld
            go_wp2_with fail
            refine (ages_any (w.heap.size + 1) s4 _ hv5.out).mono ?_
            rintro e W6 ⟨rfl, hb⟩
            have hv6 := hid (carry_a (o' := agb s4.a0 s4.a1 s4.a2) (carry_b hb hv5.out))
            have hu6 := hid (carry_a (o' := agb s4.a0 s4.a1 s4.a2) (carry_b hb hu5.out))
            have ha6 := hid (carry_a (o' := agb s4.a0 s4.a1 s4.a2) (carry_b hb ha5.out))
            have hc6 := hid (carry_a (o' := agb s4.a0 s4.a1 s4.a2) (carry_b hb hc5.out))
            have hm6 := hid (heap_alloc_new W6 (agb s4.a0 s4.a1 s4.a2))
            have hB6 := hid ((hB5.out.trans (hb.mono hB5.out.size)).alloc (hB5.out.trans (hb.mono hB5.out.size)).size (agb s4.a0 s4.a1 s4.a2))
            clear hb hv5 hu5 ha5 hc5 hB5
            go_wp2_with fail
            refine (rot0_ages (w.heap.size + 1 + 1) s4 _ hu6.out).mono ?_
            rintro e W7 ⟨rfl, hb⟩
            have hv7 := hid (carry_a (o' := (agb s4.a0 s4.a1 s4.a2)) (carry_b hb hv6.out))
            have hu7 := hid (carry_a (o' := (agb s4.a0 s4.a1 s4.a2)) (carry_b hb hu6.out))
            have ha7 := hid (carry_a (o' := (agb s4.a0 s4.a1 s4.a2)) (carry_b hb ha6.out))
            have hc7 := hid (carry_a (o' := (agb s4.a0 s4.a1 s4.a2)) (carry_b hb hc6.out))
            have hm7 := hid (carry_a (o' := (agb s4.a0 s4.a1 s4.a2)) (carry_b hb hm6.out))
            have hn7 := hid (heap_alloc_new W7 (agb s4.a0 s4.a1 s4.a2))
            have hB7 := hid ((hB6.out.trans (hb.mono hB6.out.size)).alloc (hB6.out.trans (hb.mono hB6.out.size)).size (agb s4.a0 s4.a1 s4.a2))
            clear hb hv6 hu6 ha6 hc6 hm6 hB6
            go_wp2_with fail
            generalize W7.alloc (agb s4.a0 s4.a1 s4.a2) = W8 at *
            generalize W7.heap.size = g7 at *
            generalize W6.heap.size = g6 at *
            obtain ⟨a0, a1⟩ := rb_cells ha7.out
            obtain ⟨b0, b1⟩ := rb_cells hc7.out
            obtain ⟨m0, m1, m2⟩ := agb_cells hm7.out
            obtain ⟨n0, n1, n2⟩ := agb_cells hn7.out
            replace a0 := lat_fact a0
            replace a1 := lat_fact a1
            replace b0 := lat_fact b0
            replace b1 := lat_fact b1
            replace m0 := lat_fact m0
            replace m1 := lat_fact m1
            replace m2 := lat_fact m2
            replace n0 := lat_fact n0
            replace n1 := lat_fact n1
            replace n2 := lat_fact n2
            have hs8 := hid (show w.heap.size ≤ W8.heap.size from by have := hB7.out.size; omega)
            refine wp_region_later_lit (by kernel_rfl) (by kernel_rfl) ?_
            repeat (go_big_quiet_step (first | (with_reducible exact splits_later (w.heap.size + 1) s4 hv7.out) | exact rot0_splits (w.heap.size + 1 + 1) s4 hu7.out))
            refine wpQuiet_nil ?_
            rintro _ ⟨nq, rfl⟩
            go_wp2
            go_roundw
            case rel => exact ⟨i + 1, s4, by simp, by omega, hok4, hid (lat_heap hv7.out nq), hid (lat_heap hu7.out nq), hid (hB7.out.trans ((lat_below W8 nq).mono hB7.out.size))⟩
            case measure => simp [intOf]; omega
          · intro hJ
            have hUd : W.drew.heap[w.heap.size + 1 + 1]? = _ := hU4.out
            have hVd : W.drew.heap[w.heap.size + 1]? = _ := hV4.out
            have hAd : W.drew.heap[g]? = _ := hA4.out
            have hTd : W.drew.heap[wo.heap.size]? = _ := hT4.out
            have hBd : Below W1.heap.size W1 W.drew := hB4.out.drew
            refine two_ (i := 15) (j := 16) (Ni := some 92) (Nj := some 15) #[true, true, true, true, true, true, true, true, true, true, true, true, true, true, true, true, false, false] #[true, true, true, true, true, true, true, true, true, true, true, true, true, true, true, false, true, false] rfl rfl rfl rfl (by kernel_rfl) (by simp) (by simp) (fun K hK => ?_) (fun K hK => ?_)
            · refine goes_ Try.func14 (by kernel_rfl) rfl #[.pointer (some ⟨w.heap.size + 1 + 1, 0, none⟩), ub t.r0 t.r1 t.r2] (by rfl) rfl rfl (by (try simp only [List.map_toArray, List.map_cons, List.map_nil]); first | done | rfl) ?_
              refine (hstepu.out W.drew hUd).mono ?_
              rintro e w5 ⟨rfl, hp⟩
              have hT5 : w5.heap[wo.heap.size]? = some (tkb t) := carry_p hp hTd (by omega)
              refine ⟨_, rfl, hK.out _ _ hT5 (fun _ => ?_)⟩
              clear hK K
              refine one_ (i := 16) (N := some 15) #[true, true, true, true, true, true, true, true, true, true, true, true, true, true, true, true, true, false] rfl rfl (by kernel_rfl) (by simp) (fun K hK => ?_)
              refine value_ (v := .pointer (some ⟨w5.heap.size, 0, none⟩)) (w1 := w5.alloc (rb false 0)) (by rfl) rfl (by go_simp) ?_
              refine hK.out _ _ (carry_a hT5) (fun _ => ?_)
              clear hK K
              refine one_ (i := 17) (N := none) #[true, true, true, true, true, true, true, true, true, true, true, true, true, true, true, true, true, true] rfl rfl (by kernel_rfl) (by simp) (fun K hK => ?_)
              refine skip_ (w1 := ?_) (by rfl) rfl ?_ ?_
              rotate_left
              · go_simp
                rfl
              refine hK.out _ _ (carry_a hT5) (fun _ => ?_)
              clear hK K
              exact hJ w5.heap.size _ ⟨carry_a (carry_p hp hVd (by omega)), carry_a hp.at_, carry_a (carry_p hp hAd hn1.out), heap_alloc_new w5 _, (hBd.trans ((hp.mono hBd.size).below (by omega))).alloc (hBd.trans ((hp.mono hBd.size).below (by omega))).size _⟩
            · refine value_ (v := .pointer (some ⟨W.drew.heap.size, 0, none⟩)) (w1 := W.drew.alloc (rb false 0)) (by rfl) rfl (by go_simp) ?_
              refine hK.out _ _ (carry_a hTd) (fun _ => ?_)
              clear hK K
              refine one_ (i := 15) (N := some 92) #[true, true, true, true, true, true, true, true, true, true, true, true, true, true, true, true, true, false] rfl rfl (by kernel_rfl) (by simp) (fun K hK => ?_)
              refine goes_ Try.func14 (by kernel_rfl) rfl #[.pointer (some ⟨w.heap.size + 1 + 1, 0, none⟩), ub t.r0 t.r1 t.r2] (by rfl) rfl rfl (by (try simp only [List.map_toArray, List.map_cons, List.map_nil]); first | done | rfl) ?_
              refine (hstepu.out _ (carry_a hUd)).mono ?_
              rintro e w5 ⟨rfl, hp⟩
              have hT5 : w5.heap[wo.heap.size]? = some (tkb t) := carry_p hp (carry_a hTd) (by omega)
              have hne : W.heap.size ≠ w.heap.size + 1 + 1 := by have := heap_lt hU4.out; omega
              have hA5 : w5.heap[W.heap.size]? = some (rb false 0) := carry_p hp (heap_alloc_new W.drew (rb false 0)) hne
              obtain ⟨p0, p1⟩ := rb_fz hA5
              obtain ⟨p2, p3⟩ := rb_cells hA5
              have hlt5 := heap_lt hA5
              refine ⟨_, rfl, hK.out _ _ hT5 (fun _ => ?_)⟩
              clear hK K
              refine one_ (i := 17) (N := none) #[true, true, true, true, true, true, true, true, true, true, true, true, true, true, true, true, true, true] rfl rfl (by kernel_rfl) (by simp) (fun K hK => ?_)
              refine skip_ (w1 := ?_) (by rfl) rfl ?_ ?_
              rotate_left
              · go_simp
                rfl
              refine hK.out _ _ (set2_other hT5 (by have := heap_lt hT4.out; omega)) (fun _ => ?_)
              clear hK K
              have hF := hJ W.heap.size _ ⟨set2_other (carry_p hp (carry_a hVd) (by omega)) (by have := heap_lt hV4.out; omega), set2_other hp.at_ hne.symm, set2_other (carry_p hp (carry_a hAd) hn1.out) (by have := heap_lt hA4.out; omega), rb_set2 o x hA5, set2_below (hBd.alloc hB4.out.size (rb false 0) |>.trans ((hp.mono (by simp; exact Nat.le_succ_of_le hB4.out.size)).below (by omega))) hB4.out.size⟩
              simp only [putAll, Act.put, List.setIfInBounds_toArray, List.set_cons_zero, List.set_cons_succ] at hF ⊢
              exact hF
        · have hin : i = n := by omega
          go_wp2_with fail
          refine (awake_any _).mono ?_
          rintro e w9 ⟨rfl, hb9⟩
          have hb9 := hid (hw1.out.trans ((hb.out.trans (hb9.mono (by omega))).mono (by omega)))
          go_wp2
          go_ret
          exact ⟨rfl, hb9.out⟩
    · go_wp2_with fail
      go_loopw [12] (fun v12 wr => ∃ (i : Nat) (s : Vr), v12 = .int .i64 i ∧ i ≤ n ∧ Hid s.ok ∧ Hid (wr.heap[w.heap.size + 1]? = some (vb s)) ∧ Hid (wr.heap[w.heap.size + 1 + 1]? = some (vb (rot1 s))) ∧ Hid (Below W1.heap.size W1 wr)) (fun v _ => n - (intOf v).toNat)
      case atStart => exact ⟨0, new0 stale split, rfl, by omega, hid (new0_ok hs0 hs1 hp0), hv3, hu3, hb3⟩
      case round =>
        obtain ⟨i, s, rfl, hi, hok, hv, hu, hb⟩ := hrel
        clear hv3 hu3 hb3
        obtain ⟨wo, rfl⟩ : ∃ wo, wo = wr := ⟨_, rfl⟩
        have x1 := (hb.out.cell (World.block_lt_of_cell? W1 _ x0.out)).trans x0.out
        have hzr := hb.out.size
        rw [hz1] at hzr
        by_cases hlt : i < n
        · obtain ⟨t, ht⟩ : ∃ t, ts[i]? = some t := ⟨ts[i]'(by omega), List.getElem?_eq_getElem (by omega)⟩
          obtain ⟨bb, off, rfl, hbb, twf, t0, t1, t2, t3, t4, t5⟩ := ht1.out.below hb.out i t ht
          replace ht := hid ht
          replace twf := hid twf
          have hNv := heap_lt hv.out
          have hNu := heap_lt hu.out
          go_wp2_with fail
          refine (step_ok (w.heap.size + 1) s t.r0 t.r1 t.r2 _ (carry_a hv.out) hok.out twf.out.1 twf.out.2.1 twf.out.2.2).mono ?_
          rintro e w4 ⟨rfl, hp⟩
          have hv4 := hid hp.at_
          have hu4 := hid (carry_p hp (carry_a hu.out) (by omega))
          have ht4 := hid (carry_p hp (heap_alloc_new wo (tkb t)) (by omega))
          have hb4 := hid ((hb.out.alloc hb.out.size (tkb t)).trans ((hp.mono (by simp; omega)).below (by omega)))
          have hstepu := hid (fun W h => rot1_step (w.heap.size + 1 + 1) s t.r0 t.r1 t.r2 W h hok.out twf.out.1 twf.out.2.1 twf.out.2.2)
          have hok4 := hid (fin_ok hok.out twf.out.1 twf.out.2.1 twf.out.2.2)
          generalize decide ((vlK s t.r0 t.r1 t.r2 3).length ≠ 0) = o at *
          generalize pick (vlK s t.r0 t.r1 t.r2 3) = x at *
          generalize fin s t.r0 t.r1 t.r2 = s4 at *
          clear hp hv hu hb t0 t1 t2 t3 t4 t5 x1
          have hT4 := hid (carry_a (o' := rb o x) ht4.out)
          obtain ⟨k0, k1, k2, k3, k4, k5⟩ := tkb_cells hT4.out
          have hV4 := hid (carry_a (o' := rb o x) hv4.out)
          have hU4 := hid (carry_a (o' := rb o x) hu4.out)
          have hA4 := hid (heap_alloc_new w4 (rb o x))
          have hB4 := hid (hb4.out.alloc hb4.out.size (rb o x))
          have hn1 : w4.heap.size ≠ w.heap.size + 1 + 1 := by have := heap_lt hu4.out; omega
          replace hn1 := hid hn1
          clear hv4 hu4 ht4 hb4
          go_wp2_with fail
          generalize w4.alloc (rb o x) = W at *
          generalize w4.heap.size = g at *
          have hT_ : (fun w' : World => w'.heap[wo.heap.size]? = some (tkb t)) W.drew := hT4.out
          refine start_ (n := 18) (S := (fun w' => w'.heap[wo.heap.size]? = some (tkb t))) (ds := []) #[false, false, false, false, false, false, false, false, false, false, false, false, false, false, false, false, false, false] (by kernel_rfl) rfl rfl hT_ (fun hHeld => ?_)
          refine pure_ (i := 0) (N := some 77) (v := (.pointer (some ⟨w.heap.size + 1 + 1, 0, none⟩))) (a' := ?_) #[true, false, false, false, false, false, false, false, false, false, false, false, false, false, false, false, false, false] rfl rfl (by kernel_rfl) (fun _ _ _ h => h) (Or.inl ⟨by rfl, ?_⟩) ?_ ?_
          · intro w'
            go_simp
            try (first | with_reducible rfl | rfl | (simp; done))
          rotate_left
          · simp only [Act.put, List.setIfInBounds_toArray, List.set_cons_zero, List.set_cons_succ]
            rfl
          refine pure_ (i := 1) (N := some 78) (v := (.int .i64 1)) (a' := ?_) #[true, true, false, false, false, false, false, false, false, false, false, false, false, false, false, false, false, false] rfl rfl (by kernel_rfl) (fun _ _ _ h => h) (Or.inl ⟨by rfl, ?_⟩) ?_ ?_
          · intro w'
            go_simp
            try (first | with_reducible rfl | rfl | (simp; done))
          rotate_left
          · simp only [Act.put, List.setIfInBounds_toArray, List.set_cons_zero, List.set_cons_succ]
            rfl
          refine pure_ (i := 2) (N := some 79) (v := (.pointer (some ⟨wo.heap.size, 2, none⟩))) (a' := ?_) #[true, true, true, false, false, false, false, false, false, false, false, false, false, false, false, false, false, false] rfl rfl (by kernel_rfl) (fun _ _ _ h => h) (Or.inl ⟨by rfl, ?_⟩) ?_ ?_
          · intro w'
            go_simp
            try (first | with_reducible rfl | rfl | (simp; done))
          rotate_left
          · simp only [Act.put, List.setIfInBounds_toArray, List.set_cons_zero, List.set_cons_succ]
            rfl
          refine take_ (i := 3) (N := some 80) (v := (.agg #[.bool t.r1.ok, .int .i64 t.r1.x])) (a' := ?_) #[true, true, true, true, false, false, false, false, false, false, false, false, false, false, false, false, false, false] rfl rfl (by kernel_rfl) (fun _ _ _ h => h) (Or.inl ⟨by rfl, ?_⟩) hHeld ?_ ?_
          · intro w' hS'
            obtain ⟨s0, s1, s2, s3, s4', s5⟩ := tkb_cells hS'
            go_simp
            try (first | with_reducible rfl | rfl | (simp; done))
          rotate_left
          · simp only [Act.put, List.setIfInBounds_toArray, List.set_cons_zero, List.set_cons_succ]
            rfl
          refine pure_ (i := 4) (N := some 81) (v := (.int .i64 1)) (a' := ?_) #[true, true, true, true, true, false, false, false, false, false, false, false, false, false, false, false, false, false] rfl rfl (by kernel_rfl) (fun _ _ _ h => h) (Or.inl ⟨by rfl, ?_⟩) ?_ ?_
          · intro w'
            go_simp
            try (first | with_reducible rfl | rfl | (simp; done))
          rotate_left
          · simp only [Act.put, List.setIfInBounds_toArray, List.set_cons_zero, List.set_cons_succ]
            rfl
          refine pure_ (i := 5) (N := some 82) (v := (.int .i64 2)) (a' := ?_) #[true, true, true, true, true, true, false, false, false, false, false, false, false, false, false, false, false, false] rfl rfl (by kernel_rfl) (fun _ _ _ h => h) (Or.inl ⟨by rfl, ?_⟩) ?_ ?_
          · intro w'
            go_simp
            try (first | with_reducible rfl | rfl | (simp; done))
          rotate_left
          · simp only [Act.put, List.setIfInBounds_toArray, List.set_cons_zero, List.set_cons_succ]
            rfl
          refine pure_ (i := 6) (N := some 83) (v := (.int .i64 2)) (a' := ?_) #[true, true, true, true, true, true, true, false, false, false, false, false, false, false, false, false, false, false] rfl rfl (by kernel_rfl) (fun _ _ _ h => h) (Or.inl ⟨by rfl, ?_⟩) ?_ ?_
          · intro w'
            go_simp
            try (first | with_reducible rfl | rfl | (simp; done))
          rotate_left
          · simp only [Act.put, List.setIfInBounds_toArray, List.set_cons_zero, List.set_cons_succ]
            rfl
          refine pure_ (i := 7) (N := some 84) (v := (.pointer (some ⟨wo.heap.size, 4, none⟩))) (a' := ?_) #[true, true, true, true, true, true, true, true, false, false, false, false, false, false, false, false, false, false] rfl rfl (by kernel_rfl) (fun _ _ _ h => h) (Or.inl ⟨by rfl, ?_⟩) ?_ ?_
          · intro w'
            go_simp
            try (first | with_reducible rfl | rfl | (simp; done))
          rotate_left
          · simp only [Act.put, List.setIfInBounds_toArray, List.set_cons_zero, List.set_cons_succ]
            rfl
          refine take_ (i := 8) (N := some 85) (v := (.agg #[.bool t.r2.ok, .int .i64 t.r2.x])) (a' := ?_) #[true, true, true, true, true, true, true, true, true, false, false, false, false, false, false, false, false, false] rfl rfl (by kernel_rfl) (fun _ _ _ h => h) (Or.inl ⟨by rfl, ?_⟩) hHeld ?_ ?_
          · intro w' hS'
            obtain ⟨s0, s1, s2, s3, s4', s5⟩ := tkb_cells hS'
            go_simp
            try (first | with_reducible rfl | rfl | (simp; done))
          rotate_left
          · simp only [Act.put, List.setIfInBounds_toArray, List.set_cons_zero, List.set_cons_succ]
            rfl
          refine pure_ (i := 9) (N := some 86) (v := (.int .i64 1)) (a' := ?_) #[true, true, true, true, true, true, true, true, true, true, false, false, false, false, false, false, false, false] rfl rfl (by kernel_rfl) (fun _ _ _ h => h) (Or.inl ⟨by rfl, ?_⟩) ?_ ?_
          · intro w'
            go_simp
            try (first | with_reducible rfl | rfl | (simp; done))
          rotate_left
          · simp only [Act.put, List.setIfInBounds_toArray, List.set_cons_zero, List.set_cons_succ]
            rfl
          refine pure_ (i := 10) (N := some 87) (v := (.int .i64 3)) (a' := ?_) #[true, true, true, true, true, true, true, true, true, true, true, false, false, false, false, false, false, false] rfl rfl (by kernel_rfl) (fun _ _ _ h => h) (Or.inl ⟨by rfl, ?_⟩) ?_ ?_
          · intro w'
            go_simp
            try (first | with_reducible rfl | rfl | (simp; done))
          rotate_left
          · simp only [Act.put, List.setIfInBounds_toArray, List.set_cons_zero, List.set_cons_succ]
            rfl
          refine pure_ (i := 11) (N := some 88) (v := (.int .i64 0)) (a' := ?_) #[true, true, true, true, true, true, true, true, true, true, true, true, false, false, false, false, false, false] rfl rfl (by kernel_rfl) (fun _ _ _ h => h) (Or.inl ⟨by rfl, ?_⟩) ?_ ?_
          · intro w'
            go_simp
            try (first | with_reducible rfl | rfl | (simp; done))
          rotate_left
          · simp only [Act.put, List.setIfInBounds_toArray, List.set_cons_zero, List.set_cons_succ]
            rfl
          refine pure_ (i := 12) (N := some 89) (v := (.pointer (some ⟨wo.heap.size, 0, none⟩))) (a' := ?_) #[true, true, true, true, true, true, true, true, true, true, true, true, true, false, false, false, false, false] rfl rfl (by kernel_rfl) (fun _ _ _ h => h) (Or.inl ⟨by rfl, ?_⟩) ?_ ?_
          · intro w'
            go_simp
            try (first | with_reducible rfl | rfl | (simp; done))
          rotate_left
          · simp only [Act.put, List.setIfInBounds_toArray, List.set_cons_zero, List.set_cons_succ]
            rfl
          refine take_ (i := 13) (N := some 90) (v := (.agg #[.bool t.r0.ok, .int .i64 t.r0.x])) (a' := ?_) #[true, true, true, true, true, true, true, true, true, true, true, true, true, true, false, false, false, false] rfl rfl (by kernel_rfl) (fun _ _ _ h => h) (Or.inl ⟨by rfl, ?_⟩) hHeld ?_ ?_
          · intro w' hS'
            obtain ⟨s0, s1, s2, s3, s4', s5⟩ := tkb_cells hS'
            go_simp
            try (first | with_reducible rfl | rfl | (simp; done))
          rotate_left
          · simp only [Act.put, List.setIfInBounds_toArray, List.set_cons_zero, List.set_cons_succ]
            rfl
          refine pure_ (i := 14) (N := some 91) (v := (ub t.r1 t.r2 t.r0)) (a' := ?_) #[true, true, true, true, true, true, true, true, true, true, true, true, true, true, true, false, false, false] rfl rfl (by kernel_rfl) (fun _ _ _ h => h) (Or.inl ⟨by rfl, ?_⟩) ?_ ?_
          · intro w'
            go_simp
            try (first | with_reducible rfl | rfl | (simp; done))
          rotate_left
          · simp only [Act.put, List.setIfInBounds_toArray, List.set_cons_zero, List.set_cons_succ]
            rfl
          refine join_ (σ := Nat) 0 #[true, true, true, true, true, true, true, true, true, true, true, true, true, true, true, true, true, true] (fun b => [(92, (.agg #[.bool o, .int .i64 x])), (15, .pointer (some ⟨b, 0, none⟩))]) (AftB (w.heap.size + 1) (w.heap.size + 1 + 1) s4 (rot1 s4) g o x W1) ?_ ?_
          · rintro b5 W5 hF
            refine norm_ (a' := ?_) ?_ ?_
            rotate_left
            · simp only [putAll, Act.put, List.setIfInBounds_toArray, List.set_cons_zero, List.set_cons_succ]
              rfl
            refine done_ (by kernel_rfl) ?_
            obtain ⟨hv5, hu5, ha5, hc5, hB5⟩ := hF
            replace hv5 := hid hv5
            replace hu5 := hid hu5
            replace ha5 := hid ha5
            replace hc5 := hid hc5
            replace hB5 := hid hB5
            clear hV4 hU4 hA4 hB4 hT4 hT_ hstepu hHeld
            go_wp2_with fail
            refine (ages_any (w.heap.size + 1) s4 _ hv5.out).mono ?_
            rintro e W6 ⟨rfl, hb⟩
            have hv6 := hid (carry_a (o' := agb s4.a0 s4.a1 s4.a2) (carry_b hb hv5.out))
            have hu6 := hid (carry_a (o' := agb s4.a0 s4.a1 s4.a2) (carry_b hb hu5.out))
            have ha6 := hid (carry_a (o' := agb s4.a0 s4.a1 s4.a2) (carry_b hb ha5.out))
            have hc6 := hid (carry_a (o' := agb s4.a0 s4.a1 s4.a2) (carry_b hb hc5.out))
            have hm6 := hid (heap_alloc_new W6 (agb s4.a0 s4.a1 s4.a2))
            have hB6 := hid ((hB5.out.trans (hb.mono hB5.out.size)).alloc (hB5.out.trans (hb.mono hB5.out.size)).size (agb s4.a0 s4.a1 s4.a2))
            clear hb hv5 hu5 ha5 hc5 hB5
            go_wp2_with fail
            refine (rot1_ages (w.heap.size + 1 + 1) s4 _ hu6.out).mono ?_
            rintro e W7 ⟨rfl, hb⟩
            have hv7 := hid (carry_a (o' := (agb s4.a1 s4.a2 s4.a0)) (carry_b hb hv6.out))
            have hu7 := hid (carry_a (o' := (agb s4.a1 s4.a2 s4.a0)) (carry_b hb hu6.out))
            have ha7 := hid (carry_a (o' := (agb s4.a1 s4.a2 s4.a0)) (carry_b hb ha6.out))
            have hc7 := hid (carry_a (o' := (agb s4.a1 s4.a2 s4.a0)) (carry_b hb hc6.out))
            have hm7 := hid (carry_a (o' := (agb s4.a1 s4.a2 s4.a0)) (carry_b hb hm6.out))
            have hn7 := hid (heap_alloc_new W7 (agb s4.a1 s4.a2 s4.a0))
            have hB7 := hid ((hB6.out.trans (hb.mono hB6.out.size)).alloc (hB6.out.trans (hb.mono hB6.out.size)).size (agb s4.a1 s4.a2 s4.a0))
            clear hb hv6 hu6 ha6 hc6 hm6 hB6
            go_wp2_with fail
            generalize W7.alloc (agb s4.a1 s4.a2 s4.a0) = W8 at *
            generalize W7.heap.size = g7 at *
            generalize W6.heap.size = g6 at *
            obtain ⟨a0, a1⟩ := rb_cells ha7.out
            obtain ⟨b0, b1⟩ := rb_cells hc7.out
            obtain ⟨m0, m1, m2⟩ := agb_cells hm7.out
            obtain ⟨n0, n1, n2⟩ := agb_cells hn7.out
            replace a0 := lat_fact a0
            replace a1 := lat_fact a1
            replace b0 := lat_fact b0
            replace b1 := lat_fact b1
            replace m0 := lat_fact m0
            replace m1 := lat_fact m1
            replace m2 := lat_fact m2
            replace n0 := lat_fact n0
            replace n1 := lat_fact n1
            replace n2 := lat_fact n2
            have hs8 := hid (show w.heap.size ≤ W8.heap.size from by have := hB7.out.size; omega)
            refine wp_region_later_lit (by kernel_rfl) (by kernel_rfl) ?_
            repeat (go_big_quiet_step (first | (with_reducible exact splits_later (w.heap.size + 1) s4 hv7.out) | exact rot1_splits (w.heap.size + 1 + 1) s4 hu7.out))
            refine wpQuiet_nil ?_
            rintro _ ⟨nq, rfl⟩
            go_wp2
            go_roundw
            case rel => exact ⟨i + 1, s4, by simp, by omega, hok4, hid (lat_heap hv7.out nq), hid (lat_heap hu7.out nq), hid (hB7.out.trans ((lat_below W8 nq).mono hB7.out.size))⟩
            case measure => simp [intOf]; omega
          · intro hJ
            have hUd : W.drew.heap[w.heap.size + 1 + 1]? = _ := hU4.out
            have hVd : W.drew.heap[w.heap.size + 1]? = _ := hV4.out
            have hAd : W.drew.heap[g]? = _ := hA4.out
            have hTd : W.drew.heap[wo.heap.size]? = _ := hT4.out
            have hBd : Below W1.heap.size W1 W.drew := hB4.out.drew
            refine two_ (i := 15) (j := 16) (Ni := some 92) (Nj := some 15) #[true, true, true, true, true, true, true, true, true, true, true, true, true, true, true, true, false, false] #[true, true, true, true, true, true, true, true, true, true, true, true, true, true, true, false, true, false] rfl rfl rfl rfl (by kernel_rfl) (by simp) (by simp) (fun K hK => ?_) (fun K hK => ?_)
            · refine goes_ Try.func14 (by kernel_rfl) rfl #[.pointer (some ⟨w.heap.size + 1 + 1, 0, none⟩), ub t.r1 t.r2 t.r0] (by rfl) rfl rfl (by (try simp only [List.map_toArray, List.map_cons, List.map_nil]); first | done | rfl) ?_
              refine (hstepu.out W.drew hUd).mono ?_
              rintro e w5 ⟨rfl, hp⟩
              have hT5 : w5.heap[wo.heap.size]? = some (tkb t) := carry_p hp hTd (by omega)
              refine ⟨_, rfl, hK.out _ _ hT5 (fun _ => ?_)⟩
              clear hK K
              refine one_ (i := 16) (N := some 15) #[true, true, true, true, true, true, true, true, true, true, true, true, true, true, true, true, true, false] rfl rfl (by kernel_rfl) (by simp) (fun K hK => ?_)
              refine value_ (v := .pointer (some ⟨w5.heap.size, 0, none⟩)) (w1 := w5.alloc (rb false 0)) (by rfl) rfl (by go_simp) ?_
              refine hK.out _ _ (carry_a hT5) (fun _ => ?_)
              clear hK K
              refine one_ (i := 17) (N := none) #[true, true, true, true, true, true, true, true, true, true, true, true, true, true, true, true, true, true] rfl rfl (by kernel_rfl) (by simp) (fun K hK => ?_)
              refine skip_ (w1 := ?_) (by rfl) rfl ?_ ?_
              rotate_left
              · go_simp
                rfl
              refine hK.out _ _ (carry_a hT5) (fun _ => ?_)
              clear hK K
              exact hJ w5.heap.size _ ⟨carry_a (carry_p hp hVd (by omega)), carry_a hp.at_, carry_a (carry_p hp hAd hn1.out), heap_alloc_new w5 _, (hBd.trans ((hp.mono hBd.size).below (by omega))).alloc (hBd.trans ((hp.mono hBd.size).below (by omega))).size _⟩
            · refine value_ (v := .pointer (some ⟨W.drew.heap.size, 0, none⟩)) (w1 := W.drew.alloc (rb false 0)) (by rfl) rfl (by go_simp) ?_
              refine hK.out _ _ (carry_a hTd) (fun _ => ?_)
              clear hK K
              refine one_ (i := 15) (N := some 92) #[true, true, true, true, true, true, true, true, true, true, true, true, true, true, true, true, true, false] rfl rfl (by kernel_rfl) (by simp) (fun K hK => ?_)
              refine goes_ Try.func14 (by kernel_rfl) rfl #[.pointer (some ⟨w.heap.size + 1 + 1, 0, none⟩), ub t.r1 t.r2 t.r0] (by rfl) rfl rfl (by (try simp only [List.map_toArray, List.map_cons, List.map_nil]); first | done | rfl) ?_
              refine (hstepu.out _ (carry_a hUd)).mono ?_
              rintro e w5 ⟨rfl, hp⟩
              have hT5 : w5.heap[wo.heap.size]? = some (tkb t) := carry_p hp (carry_a hTd) (by omega)
              have hne : W.heap.size ≠ w.heap.size + 1 + 1 := by have := heap_lt hU4.out; omega
              have hA5 : w5.heap[W.heap.size]? = some (rb false 0) := carry_p hp (heap_alloc_new W.drew (rb false 0)) hne
              obtain ⟨p0, p1⟩ := rb_fz hA5
              obtain ⟨p2, p3⟩ := rb_cells hA5
              have hlt5 := heap_lt hA5
              refine ⟨_, rfl, hK.out _ _ hT5 (fun _ => ?_)⟩
              clear hK K
              refine one_ (i := 17) (N := none) #[true, true, true, true, true, true, true, true, true, true, true, true, true, true, true, true, true, true] rfl rfl (by kernel_rfl) (by simp) (fun K hK => ?_)
              refine skip_ (w1 := ?_) (by rfl) rfl ?_ ?_
              rotate_left
              · go_simp
                rfl
              refine hK.out _ _ (set2_other hT5 (by have := heap_lt hT4.out; omega)) (fun _ => ?_)
              clear hK K
              have hF := hJ W.heap.size _ ⟨set2_other (carry_p hp (carry_a hVd) (by omega)) (by have := heap_lt hV4.out; omega), set2_other hp.at_ hne.symm, set2_other (carry_p hp (carry_a hAd) hn1.out) (by have := heap_lt hA4.out; omega), rb_set2 o x hA5, set2_below (hBd.alloc hB4.out.size (rb false 0) |>.trans ((hp.mono (by simp; exact Nat.le_succ_of_le hB4.out.size)).below (by omega))) hB4.out.size⟩
              simp only [putAll, Act.put, List.setIfInBounds_toArray, List.set_cons_zero, List.set_cons_succ] at hF ⊢
              exact hF
        · have hin : i = n := by omega
          go_wp2_with fail
          refine (awake_any _).mono ?_
          rintro e w9 ⟨rfl, hb9⟩
          have hb9 := hid (hw1.out.trans ((hb.out.trans (hb9.mono (by omega))).mono (by omega)))
          go_wp2
          go_ret
          exact ⟨rfl, hb9.out⟩
    · go_wp2_with fail
      go_loopw [12] (fun v12 wr => ∃ (i : Nat) (s : Vr), v12 = .int .i64 i ∧ i ≤ n ∧ Hid s.ok ∧ Hid (wr.heap[w.heap.size + 1]? = some (vb s)) ∧ Hid (wr.heap[w.heap.size + 1 + 1]? = some (vb (rot2 s))) ∧ Hid (Below W1.heap.size W1 wr)) (fun v _ => n - (intOf v).toNat)
      case atStart => exact ⟨0, new0 stale split, rfl, by omega, hid (new0_ok hs0 hs1 hp0), hv3, hu3, hb3⟩
      case round =>
        obtain ⟨i, s, rfl, hi, hok, hv, hu, hb⟩ := hrel
        clear hv3 hu3 hb3
        obtain ⟨wo, rfl⟩ : ∃ wo, wo = wr := ⟨_, rfl⟩
        have x1 := (hb.out.cell (World.block_lt_of_cell? W1 _ x0.out)).trans x0.out
        have hzr := hb.out.size
        rw [hz1] at hzr
        by_cases hlt : i < n
        · obtain ⟨t, ht⟩ : ∃ t, ts[i]? = some t := ⟨ts[i]'(by omega), List.getElem?_eq_getElem (by omega)⟩
          obtain ⟨bb, off, rfl, hbb, twf, t0, t1, t2, t3, t4, t5⟩ := ht1.out.below hb.out i t ht
          replace ht := hid ht
          replace twf := hid twf
          have hNv := heap_lt hv.out
          have hNu := heap_lt hu.out
          go_wp2_with fail
          refine (step_ok (w.heap.size + 1) s t.r0 t.r1 t.r2 _ (carry_a hv.out) hok.out twf.out.1 twf.out.2.1 twf.out.2.2).mono ?_
          rintro e w4 ⟨rfl, hp⟩
          have hv4 := hid hp.at_
          have hu4 := hid (carry_p hp (carry_a hu.out) (by omega))
          have ht4 := hid (carry_p hp (heap_alloc_new wo (tkb t)) (by omega))
          have hb4 := hid ((hb.out.alloc hb.out.size (tkb t)).trans ((hp.mono (by simp; omega)).below (by omega)))
          have hstepu := hid (fun W h => rot2_step (w.heap.size + 1 + 1) s t.r0 t.r1 t.r2 W h hok.out twf.out.1 twf.out.2.1 twf.out.2.2)
          have hok4 := hid (fin_ok hok.out twf.out.1 twf.out.2.1 twf.out.2.2)
          generalize decide ((vlK s t.r0 t.r1 t.r2 3).length ≠ 0) = o at *
          generalize pick (vlK s t.r0 t.r1 t.r2 3) = x at *
          generalize fin s t.r0 t.r1 t.r2 = s4 at *
          clear hp hv hu hb t0 t1 t2 t3 t4 t5 x1
          have hT4 := hid (carry_a (o' := rb o x) ht4.out)
          obtain ⟨k0, k1, k2, k3, k4, k5⟩ := tkb_cells hT4.out
          have hV4 := hid (carry_a (o' := rb o x) hv4.out)
          have hU4 := hid (carry_a (o' := rb o x) hu4.out)
          have hA4 := hid (heap_alloc_new w4 (rb o x))
          have hB4 := hid (hb4.out.alloc hb4.out.size (rb o x))
          have hn1 : w4.heap.size ≠ w.heap.size + 1 + 1 := by have := heap_lt hu4.out; omega
          replace hn1 := hid hn1
          clear hv4 hu4 ht4 hb4
          go_wp2_with fail
          generalize w4.alloc (rb o x) = W at *
          generalize w4.heap.size = g at *
          have hT_ : (fun w' : World => w'.heap[wo.heap.size]? = some (tkb t)) W.drew := hT4.out
          refine start_ (n := 18) (S := (fun w' => w'.heap[wo.heap.size]? = some (tkb t))) (ds := []) #[false, false, false, false, false, false, false, false, false, false, false, false, false, false, false, false, false, false] (by kernel_rfl) rfl rfl hT_ (fun hHeld => ?_)
          refine pure_ (i := 0) (N := some 77) (v := (.pointer (some ⟨w.heap.size + 1 + 1, 0, none⟩))) (a' := ?_) #[true, false, false, false, false, false, false, false, false, false, false, false, false, false, false, false, false, false] rfl rfl (by kernel_rfl) (fun _ _ _ h => h) (Or.inl ⟨by rfl, ?_⟩) ?_ ?_
          · intro w'
            go_simp
            try (first | with_reducible rfl | rfl | (simp; done))
          rotate_left
          · simp only [Act.put, List.setIfInBounds_toArray, List.set_cons_zero, List.set_cons_succ]
            rfl
          refine pure_ (i := 1) (N := some 78) (v := (.int .i64 2)) (a' := ?_) #[true, true, false, false, false, false, false, false, false, false, false, false, false, false, false, false, false, false] rfl rfl (by kernel_rfl) (fun _ _ _ h => h) (Or.inl ⟨by rfl, ?_⟩) ?_ ?_
          · intro w'
            go_simp
            try (first | with_reducible rfl | rfl | (simp; done))
          rotate_left
          · simp only [Act.put, List.setIfInBounds_toArray, List.set_cons_zero, List.set_cons_succ]
            rfl
          refine pure_ (i := 2) (N := some 79) (v := (.pointer (some ⟨wo.heap.size, 4, none⟩))) (a' := ?_) #[true, true, true, false, false, false, false, false, false, false, false, false, false, false, false, false, false, false] rfl rfl (by kernel_rfl) (fun _ _ _ h => h) (Or.inl ⟨by rfl, ?_⟩) ?_ ?_
          · intro w'
            go_simp
            try (first | with_reducible rfl | rfl | (simp; done))
          rotate_left
          · simp only [Act.put, List.setIfInBounds_toArray, List.set_cons_zero, List.set_cons_succ]
            rfl
          refine take_ (i := 3) (N := some 80) (v := (.agg #[.bool t.r2.ok, .int .i64 t.r2.x])) (a' := ?_) #[true, true, true, true, false, false, false, false, false, false, false, false, false, false, false, false, false, false] rfl rfl (by kernel_rfl) (fun _ _ _ h => h) (Or.inl ⟨by rfl, ?_⟩) hHeld ?_ ?_
          · intro w' hS'
            obtain ⟨s0, s1, s2, s3, s4', s5⟩ := tkb_cells hS'
            go_simp
            try (first | with_reducible rfl | rfl | (simp; done))
          rotate_left
          · simp only [Act.put, List.setIfInBounds_toArray, List.set_cons_zero, List.set_cons_succ]
            rfl
          refine pure_ (i := 4) (N := some 81) (v := (.int .i64 2)) (a' := ?_) #[true, true, true, true, true, false, false, false, false, false, false, false, false, false, false, false, false, false] rfl rfl (by kernel_rfl) (fun _ _ _ h => h) (Or.inl ⟨by rfl, ?_⟩) ?_ ?_
          · intro w'
            go_simp
            try (first | with_reducible rfl | rfl | (simp; done))
          rotate_left
          · simp only [Act.put, List.setIfInBounds_toArray, List.set_cons_zero, List.set_cons_succ]
            rfl
          refine pure_ (i := 5) (N := some 82) (v := (.int .i64 3)) (a' := ?_) #[true, true, true, true, true, true, false, false, false, false, false, false, false, false, false, false, false, false] rfl rfl (by kernel_rfl) (fun _ _ _ h => h) (Or.inl ⟨by rfl, ?_⟩) ?_ ?_
          · intro w'
            go_simp
            try (first | with_reducible rfl | rfl | (simp; done))
          rotate_left
          · simp only [Act.put, List.setIfInBounds_toArray, List.set_cons_zero, List.set_cons_succ]
            rfl
          refine pure_ (i := 6) (N := some 83) (v := (.int .i64 0)) (a' := ?_) #[true, true, true, true, true, true, true, false, false, false, false, false, false, false, false, false, false, false] rfl rfl (by kernel_rfl) (fun _ _ _ h => h) (Or.inl ⟨by rfl, ?_⟩) ?_ ?_
          · intro w'
            go_simp
            try (first | with_reducible rfl | rfl | (simp; done))
          rotate_left
          · simp only [Act.put, List.setIfInBounds_toArray, List.set_cons_zero, List.set_cons_succ]
            rfl
          refine pure_ (i := 7) (N := some 84) (v := (.pointer (some ⟨wo.heap.size, 0, none⟩))) (a' := ?_) #[true, true, true, true, true, true, true, true, false, false, false, false, false, false, false, false, false, false] rfl rfl (by kernel_rfl) (fun _ _ _ h => h) (Or.inl ⟨by rfl, ?_⟩) ?_ ?_
          · intro w'
            go_simp
            try (first | with_reducible rfl | rfl | (simp; done))
          rotate_left
          · simp only [Act.put, List.setIfInBounds_toArray, List.set_cons_zero, List.set_cons_succ]
            rfl
          refine take_ (i := 8) (N := some 85) (v := (.agg #[.bool t.r0.ok, .int .i64 t.r0.x])) (a' := ?_) #[true, true, true, true, true, true, true, true, true, false, false, false, false, false, false, false, false, false] rfl rfl (by kernel_rfl) (fun _ _ _ h => h) (Or.inl ⟨by rfl, ?_⟩) hHeld ?_ ?_
          · intro w' hS'
            obtain ⟨s0, s1, s2, s3, s4', s5⟩ := tkb_cells hS'
            go_simp
            try (first | with_reducible rfl | rfl | (simp; done))
          rotate_left
          · simp only [Act.put, List.setIfInBounds_toArray, List.set_cons_zero, List.set_cons_succ]
            rfl
          refine pure_ (i := 9) (N := some 86) (v := (.int .i64 2)) (a' := ?_) #[true, true, true, true, true, true, true, true, true, true, false, false, false, false, false, false, false, false] rfl rfl (by kernel_rfl) (fun _ _ _ h => h) (Or.inl ⟨by rfl, ?_⟩) ?_ ?_
          · intro w'
            go_simp
            try (first | with_reducible rfl | rfl | (simp; done))
          rotate_left
          · simp only [Act.put, List.setIfInBounds_toArray, List.set_cons_zero, List.set_cons_succ]
            rfl
          refine pure_ (i := 10) (N := some 87) (v := (.int .i64 4)) (a' := ?_) #[true, true, true, true, true, true, true, true, true, true, true, false, false, false, false, false, false, false] rfl rfl (by kernel_rfl) (fun _ _ _ h => h) (Or.inl ⟨by rfl, ?_⟩) ?_ ?_
          · intro w'
            go_simp
            try (first | with_reducible rfl | rfl | (simp; done))
          rotate_left
          · simp only [Act.put, List.setIfInBounds_toArray, List.set_cons_zero, List.set_cons_succ]
            rfl
          refine pure_ (i := 11) (N := some 88) (v := (.int .i64 1)) (a' := ?_) #[true, true, true, true, true, true, true, true, true, true, true, true, false, false, false, false, false, false] rfl rfl (by kernel_rfl) (fun _ _ _ h => h) (Or.inl ⟨by rfl, ?_⟩) ?_ ?_
          · intro w'
            go_simp
            try (first | with_reducible rfl | rfl | (simp; done))
          rotate_left
          · simp only [Act.put, List.setIfInBounds_toArray, List.set_cons_zero, List.set_cons_succ]
            rfl
          refine pure_ (i := 12) (N := some 89) (v := (.pointer (some ⟨wo.heap.size, 2, none⟩))) (a' := ?_) #[true, true, true, true, true, true, true, true, true, true, true, true, true, false, false, false, false, false] rfl rfl (by kernel_rfl) (fun _ _ _ h => h) (Or.inl ⟨by rfl, ?_⟩) ?_ ?_
          · intro w'
            go_simp
            try (first | with_reducible rfl | rfl | (simp; done))
          rotate_left
          · simp only [Act.put, List.setIfInBounds_toArray, List.set_cons_zero, List.set_cons_succ]
            rfl
          refine take_ (i := 13) (N := some 90) (v := (.agg #[.bool t.r1.ok, .int .i64 t.r1.x])) (a' := ?_) #[true, true, true, true, true, true, true, true, true, true, true, true, true, true, false, false, false, false] rfl rfl (by kernel_rfl) (fun _ _ _ h => h) (Or.inl ⟨by rfl, ?_⟩) hHeld ?_ ?_
          · intro w' hS'
            obtain ⟨s0, s1, s2, s3, s4', s5⟩ := tkb_cells hS'
            go_simp
            try (first | with_reducible rfl | rfl | (simp; done))
          rotate_left
          · simp only [Act.put, List.setIfInBounds_toArray, List.set_cons_zero, List.set_cons_succ]
            rfl
          refine pure_ (i := 14) (N := some 91) (v := (ub t.r2 t.r0 t.r1)) (a' := ?_) #[true, true, true, true, true, true, true, true, true, true, true, true, true, true, true, false, false, false] rfl rfl (by kernel_rfl) (fun _ _ _ h => h) (Or.inl ⟨by rfl, ?_⟩) ?_ ?_
          · intro w'
            go_simp
            try (first | with_reducible rfl | rfl | (simp; done))
          rotate_left
          · simp only [Act.put, List.setIfInBounds_toArray, List.set_cons_zero, List.set_cons_succ]
            rfl
          refine join_ (σ := Nat) 0 #[true, true, true, true, true, true, true, true, true, true, true, true, true, true, true, true, true, true] (fun b => [(92, (.agg #[.bool o, .int .i64 x])), (15, .pointer (some ⟨b, 0, none⟩))]) (AftB (w.heap.size + 1) (w.heap.size + 1 + 1) s4 (rot2 s4) g o x W1) ?_ ?_
          · rintro b5 W5 hF
            refine norm_ (a' := ?_) ?_ ?_
            rotate_left
            · simp only [putAll, Act.put, List.setIfInBounds_toArray, List.set_cons_zero, List.set_cons_succ]
              rfl
            refine done_ (by kernel_rfl) ?_
            obtain ⟨hv5, hu5, ha5, hc5, hB5⟩ := hF
            replace hv5 := hid hv5
            replace hu5 := hid hu5
            replace ha5 := hid ha5
            replace hc5 := hid hc5
            replace hB5 := hid hB5
            clear hV4 hU4 hA4 hB4 hT4 hT_ hstepu hHeld
            go_wp2_with fail
            refine (ages_any (w.heap.size + 1) s4 _ hv5.out).mono ?_
            rintro e W6 ⟨rfl, hb⟩
            have hv6 := hid (carry_a (o' := agb s4.a0 s4.a1 s4.a2) (carry_b hb hv5.out))
            have hu6 := hid (carry_a (o' := agb s4.a0 s4.a1 s4.a2) (carry_b hb hu5.out))
            have ha6 := hid (carry_a (o' := agb s4.a0 s4.a1 s4.a2) (carry_b hb ha5.out))
            have hc6 := hid (carry_a (o' := agb s4.a0 s4.a1 s4.a2) (carry_b hb hc5.out))
            have hm6 := hid (heap_alloc_new W6 (agb s4.a0 s4.a1 s4.a2))
            have hB6 := hid ((hB5.out.trans (hb.mono hB5.out.size)).alloc (hB5.out.trans (hb.mono hB5.out.size)).size (agb s4.a0 s4.a1 s4.a2))
            clear hb hv5 hu5 ha5 hc5 hB5
            go_wp2_with fail
            refine (rot2_ages (w.heap.size + 1 + 1) s4 _ hu6.out).mono ?_
            rintro e W7 ⟨rfl, hb⟩
            have hv7 := hid (carry_a (o' := (agb s4.a2 s4.a0 s4.a1)) (carry_b hb hv6.out))
            have hu7 := hid (carry_a (o' := (agb s4.a2 s4.a0 s4.a1)) (carry_b hb hu6.out))
            have ha7 := hid (carry_a (o' := (agb s4.a2 s4.a0 s4.a1)) (carry_b hb ha6.out))
            have hc7 := hid (carry_a (o' := (agb s4.a2 s4.a0 s4.a1)) (carry_b hb hc6.out))
            have hm7 := hid (carry_a (o' := (agb s4.a2 s4.a0 s4.a1)) (carry_b hb hm6.out))
            have hn7 := hid (heap_alloc_new W7 (agb s4.a2 s4.a0 s4.a1))
            have hB7 := hid ((hB6.out.trans (hb.mono hB6.out.size)).alloc (hB6.out.trans (hb.mono hB6.out.size)).size (agb s4.a2 s4.a0 s4.a1))
            clear hb hv6 hu6 ha6 hc6 hm6 hB6
            go_wp2_with fail
            generalize W7.alloc (agb s4.a2 s4.a0 s4.a1) = W8 at *
            generalize W7.heap.size = g7 at *
            generalize W6.heap.size = g6 at *
            obtain ⟨a0, a1⟩ := rb_cells ha7.out
            obtain ⟨b0, b1⟩ := rb_cells hc7.out
            obtain ⟨m0, m1, m2⟩ := agb_cells hm7.out
            obtain ⟨n0, n1, n2⟩ := agb_cells hn7.out
            replace a0 := lat_fact a0
            replace a1 := lat_fact a1
            replace b0 := lat_fact b0
            replace b1 := lat_fact b1
            replace m0 := lat_fact m0
            replace m1 := lat_fact m1
            replace m2 := lat_fact m2
            replace n0 := lat_fact n0
            replace n1 := lat_fact n1
            replace n2 := lat_fact n2
            have hs8 := hid (show w.heap.size ≤ W8.heap.size from by have := hB7.out.size; omega)
            refine wp_region_later_lit (by kernel_rfl) (by kernel_rfl) ?_
            repeat (go_big_quiet_step (first | (with_reducible exact splits_later (w.heap.size + 1) s4 hv7.out) | exact rot2_splits (w.heap.size + 1 + 1) s4 hu7.out))
            refine wpQuiet_nil ?_
            rintro _ ⟨nq, rfl⟩
            go_wp2
            go_roundw
            case rel => exact ⟨i + 1, s4, by simp, by omega, hok4, hid (lat_heap hv7.out nq), hid (lat_heap hu7.out nq), hid (hB7.out.trans ((lat_below W8 nq).mono hB7.out.size))⟩
            case measure => simp [intOf]; omega
          · intro hJ
            have hUd : W.drew.heap[w.heap.size + 1 + 1]? = _ := hU4.out
            have hVd : W.drew.heap[w.heap.size + 1]? = _ := hV4.out
            have hAd : W.drew.heap[g]? = _ := hA4.out
            have hTd : W.drew.heap[wo.heap.size]? = _ := hT4.out
            have hBd : Below W1.heap.size W1 W.drew := hB4.out.drew
            refine two_ (i := 15) (j := 16) (Ni := some 92) (Nj := some 15) #[true, true, true, true, true, true, true, true, true, true, true, true, true, true, true, true, false, false] #[true, true, true, true, true, true, true, true, true, true, true, true, true, true, true, false, true, false] rfl rfl rfl rfl (by kernel_rfl) (by simp) (by simp) (fun K hK => ?_) (fun K hK => ?_)
            · refine goes_ Try.func14 (by kernel_rfl) rfl #[.pointer (some ⟨w.heap.size + 1 + 1, 0, none⟩), ub t.r2 t.r0 t.r1] (by rfl) rfl rfl (by (try simp only [List.map_toArray, List.map_cons, List.map_nil]); first | done | rfl) ?_
              refine (hstepu.out W.drew hUd).mono ?_
              rintro e w5 ⟨rfl, hp⟩
              have hT5 : w5.heap[wo.heap.size]? = some (tkb t) := carry_p hp hTd (by omega)
              refine ⟨_, rfl, hK.out _ _ hT5 (fun _ => ?_)⟩
              clear hK K
              refine one_ (i := 16) (N := some 15) #[true, true, true, true, true, true, true, true, true, true, true, true, true, true, true, true, true, false] rfl rfl (by kernel_rfl) (by simp) (fun K hK => ?_)
              refine value_ (v := .pointer (some ⟨w5.heap.size, 0, none⟩)) (w1 := w5.alloc (rb false 0)) (by rfl) rfl (by go_simp) ?_
              refine hK.out _ _ (carry_a hT5) (fun _ => ?_)
              clear hK K
              refine one_ (i := 17) (N := none) #[true, true, true, true, true, true, true, true, true, true, true, true, true, true, true, true, true, true] rfl rfl (by kernel_rfl) (by simp) (fun K hK => ?_)
              refine skip_ (w1 := ?_) (by rfl) rfl ?_ ?_
              rotate_left
              · go_simp
                rfl
              refine hK.out _ _ (carry_a hT5) (fun _ => ?_)
              clear hK K
              exact hJ w5.heap.size _ ⟨carry_a (carry_p hp hVd (by omega)), carry_a hp.at_, carry_a (carry_p hp hAd hn1.out), heap_alloc_new w5 _, (hBd.trans ((hp.mono hBd.size).below (by omega))).alloc (hBd.trans ((hp.mono hBd.size).below (by omega))).size _⟩
            · refine value_ (v := .pointer (some ⟨W.drew.heap.size, 0, none⟩)) (w1 := W.drew.alloc (rb false 0)) (by rfl) rfl (by go_simp) ?_
              refine hK.out _ _ (carry_a hTd) (fun _ => ?_)
              clear hK K
              refine one_ (i := 15) (N := some 92) #[true, true, true, true, true, true, true, true, true, true, true, true, true, true, true, true, true, false] rfl rfl (by kernel_rfl) (by simp) (fun K hK => ?_)
              refine goes_ Try.func14 (by kernel_rfl) rfl #[.pointer (some ⟨w.heap.size + 1 + 1, 0, none⟩), ub t.r2 t.r0 t.r1] (by rfl) rfl rfl (by (try simp only [List.map_toArray, List.map_cons, List.map_nil]); first | done | rfl) ?_
              refine (hstepu.out _ (carry_a hUd)).mono ?_
              rintro e w5 ⟨rfl, hp⟩
              have hT5 : w5.heap[wo.heap.size]? = some (tkb t) := carry_p hp (carry_a hTd) (by omega)
              have hne : W.heap.size ≠ w.heap.size + 1 + 1 := by have := heap_lt hU4.out; omega
              have hA5 : w5.heap[W.heap.size]? = some (rb false 0) := carry_p hp (heap_alloc_new W.drew (rb false 0)) hne
              obtain ⟨p0, p1⟩ := rb_fz hA5
              obtain ⟨p2, p3⟩ := rb_cells hA5
              have hlt5 := heap_lt hA5
              refine ⟨_, rfl, hK.out _ _ hT5 (fun _ => ?_)⟩
              clear hK K
              refine one_ (i := 17) (N := none) #[true, true, true, true, true, true, true, true, true, true, true, true, true, true, true, true, true, true] rfl rfl (by kernel_rfl) (by simp) (fun K hK => ?_)
              refine skip_ (w1 := ?_) (by rfl) rfl ?_ ?_
              rotate_left
              · go_simp
                rfl
              refine hK.out _ _ (set2_other hT5 (by have := heap_lt hT4.out; omega)) (fun _ => ?_)
              clear hK K
              have hF := hJ W.heap.size _ ⟨set2_other (carry_p hp (carry_a hVd) (by omega)) (by have := heap_lt hV4.out; omega), set2_other hp.at_ hne.symm, set2_other (carry_p hp (carry_a hAd) hn1.out) (by have := heap_lt hA4.out; omega), rb_set2 o x hA5, set2_below (hBd.alloc hB4.out.size (rb false 0) |>.trans ((hp.mono (by simp; exact Nat.le_succ_of_le hB4.out.size)).below (by omega))) hB4.out.size⟩
              simp only [putAll, Act.put, List.setIfInBounds_toArray, List.set_cons_zero, List.set_cons_succ] at hF ⊢
              exact hF
        · have hin : i = n := by omega
          go_wp2_with fail
          refine (awake_any _).mono ?_
          rintro e w9 ⟨rfl, hb9⟩
          have hb9 := hid (hw1.out.trans ((hb.out.trans (hb9.mono (by omega))).mono (by omega)))
          go_wp2
          go_ret
          exact ⟨rfl, hb9.out⟩
    · go_wp2_with fail
      go_loopw [12] (fun v12 wr => ∃ (i : Nat) (s : Vr), v12 = .int .i64 i ∧ i ≤ n ∧ Hid s.ok ∧ Hid (wr.heap[w.heap.size + 1]? = some (vb s)) ∧ Hid (wr.heap[w.heap.size + 1 + 1]? = some (vb (rot2 s))) ∧ Hid (Below W1.heap.size W1 wr)) (fun v _ => n - (intOf v).toNat)
      case atStart => exact ⟨0, new0 stale split, rfl, by omega, hid (new0_ok hs0 hs1 hp0), hv3, hu3, hb3⟩
      case round =>
        obtain ⟨i, s, rfl, hi, hok, hv, hu, hb⟩ := hrel
        clear hv3 hu3 hb3
        obtain ⟨wo, rfl⟩ : ∃ wo, wo = wr := ⟨_, rfl⟩
        have x1 := (hb.out.cell (World.block_lt_of_cell? W1 _ x0.out)).trans x0.out
        have hzr := hb.out.size
        rw [hz1] at hzr
        by_cases hlt : i < n
        · obtain ⟨t, ht⟩ : ∃ t, ts[i]? = some t := ⟨ts[i]'(by omega), List.getElem?_eq_getElem (by omega)⟩
          obtain ⟨bb, off, rfl, hbb, twf, t0, t1, t2, t3, t4, t5⟩ := ht1.out.below hb.out i t ht
          replace ht := hid ht
          replace twf := hid twf
          have hNv := heap_lt hv.out
          have hNu := heap_lt hu.out
          go_wp2_with fail
          refine (step_ok (w.heap.size + 1) s t.r0 t.r1 t.r2 _ (carry_a hv.out) hok.out twf.out.1 twf.out.2.1 twf.out.2.2).mono ?_
          rintro e w4 ⟨rfl, hp⟩
          have hv4 := hid hp.at_
          have hu4 := hid (carry_p hp (carry_a hu.out) (by omega))
          have ht4 := hid (carry_p hp (heap_alloc_new wo (tkb t)) (by omega))
          have hb4 := hid ((hb.out.alloc hb.out.size (tkb t)).trans ((hp.mono (by simp; omega)).below (by omega)))
          have hstepu := hid (fun W h => rot2_step (w.heap.size + 1 + 1) s t.r0 t.r1 t.r2 W h hok.out twf.out.1 twf.out.2.1 twf.out.2.2)
          have hok4 := hid (fin_ok hok.out twf.out.1 twf.out.2.1 twf.out.2.2)
          generalize decide ((vlK s t.r0 t.r1 t.r2 3).length ≠ 0) = o at *
          generalize pick (vlK s t.r0 t.r1 t.r2 3) = x at *
          generalize fin s t.r0 t.r1 t.r2 = s4 at *
          clear hp hv hu hb t0 t1 t2 t3 t4 t5 x1
          have hT4 := hid (carry_a (o' := rb o x) ht4.out)
          obtain ⟨k0, k1, k2, k3, k4, k5⟩ := tkb_cells hT4.out
          have hV4 := hid (carry_a (o' := rb o x) hv4.out)
          have hU4 := hid (carry_a (o' := rb o x) hu4.out)
          have hA4 := hid (heap_alloc_new w4 (rb o x))
          have hB4 := hid (hb4.out.alloc hb4.out.size (rb o x))
          have hn1 : w4.heap.size ≠ w.heap.size + 1 + 1 := by have := heap_lt hu4.out; omega
          replace hn1 := hid hn1
          clear hv4 hu4 ht4 hb4
          go_wp2_with fail
          generalize w4.alloc (rb o x) = W at *
          generalize w4.heap.size = g at *
          have hT_ : (fun w' : World => w'.heap[wo.heap.size]? = some (tkb t)) W.drew := hT4.out
          refine start_ (n := 18) (S := (fun w' => w'.heap[wo.heap.size]? = some (tkb t))) (ds := []) #[false, false, false, false, false, false, false, false, false, false, false, false, false, false, false, false, false, false] (by kernel_rfl) rfl rfl hT_ (fun hHeld => ?_)
          refine pure_ (i := 0) (N := some 77) (v := (.pointer (some ⟨w.heap.size + 1 + 1, 0, none⟩))) (a' := ?_) #[true, false, false, false, false, false, false, false, false, false, false, false, false, false, false, false, false, false] rfl rfl (by kernel_rfl) (fun _ _ _ h => h) (Or.inl ⟨by rfl, ?_⟩) ?_ ?_
          · intro w'
            go_simp
            try (first | with_reducible rfl | rfl | (simp; done))
          rotate_left
          · simp only [Act.put, List.setIfInBounds_toArray, List.set_cons_zero, List.set_cons_succ]
            rfl
          refine pure_ (i := 1) (N := some 78) (v := (.int .i64 2)) (a' := ?_) #[true, true, false, false, false, false, false, false, false, false, false, false, false, false, false, false, false, false] rfl rfl (by kernel_rfl) (fun _ _ _ h => h) (Or.inl ⟨by rfl, ?_⟩) ?_ ?_
          · intro w'
            go_simp
            try (first | with_reducible rfl | rfl | (simp; done))
          rotate_left
          · simp only [Act.put, List.setIfInBounds_toArray, List.set_cons_zero, List.set_cons_succ]
            rfl
          refine pure_ (i := 2) (N := some 79) (v := (.pointer (some ⟨wo.heap.size, 4, none⟩))) (a' := ?_) #[true, true, true, false, false, false, false, false, false, false, false, false, false, false, false, false, false, false] rfl rfl (by kernel_rfl) (fun _ _ _ h => h) (Or.inl ⟨by rfl, ?_⟩) ?_ ?_
          · intro w'
            go_simp
            try (first | with_reducible rfl | rfl | (simp; done))
          rotate_left
          · simp only [Act.put, List.setIfInBounds_toArray, List.set_cons_zero, List.set_cons_succ]
            rfl
          refine take_ (i := 3) (N := some 80) (v := (.agg #[.bool t.r2.ok, .int .i64 t.r2.x])) (a' := ?_) #[true, true, true, true, false, false, false, false, false, false, false, false, false, false, false, false, false, false] rfl rfl (by kernel_rfl) (fun _ _ _ h => h) (Or.inl ⟨by rfl, ?_⟩) hHeld ?_ ?_
          · intro w' hS'
            obtain ⟨s0, s1, s2, s3, s4', s5⟩ := tkb_cells hS'
            go_simp
            try (first | with_reducible rfl | rfl | (simp; done))
          rotate_left
          · simp only [Act.put, List.setIfInBounds_toArray, List.set_cons_zero, List.set_cons_succ]
            rfl
          refine pure_ (i := 4) (N := some 81) (v := (.int .i64 2)) (a' := ?_) #[true, true, true, true, true, false, false, false, false, false, false, false, false, false, false, false, false, false] rfl rfl (by kernel_rfl) (fun _ _ _ h => h) (Or.inl ⟨by rfl, ?_⟩) ?_ ?_
          · intro w'
            go_simp
            try (first | with_reducible rfl | rfl | (simp; done))
          rotate_left
          · simp only [Act.put, List.setIfInBounds_toArray, List.set_cons_zero, List.set_cons_succ]
            rfl
          refine pure_ (i := 5) (N := some 82) (v := (.int .i64 3)) (a' := ?_) #[true, true, true, true, true, true, false, false, false, false, false, false, false, false, false, false, false, false] rfl rfl (by kernel_rfl) (fun _ _ _ h => h) (Or.inl ⟨by rfl, ?_⟩) ?_ ?_
          · intro w'
            go_simp
            try (first | with_reducible rfl | rfl | (simp; done))
          rotate_left
          · simp only [Act.put, List.setIfInBounds_toArray, List.set_cons_zero, List.set_cons_succ]
            rfl
          refine pure_ (i := 6) (N := some 83) (v := (.int .i64 0)) (a' := ?_) #[true, true, true, true, true, true, true, false, false, false, false, false, false, false, false, false, false, false] rfl rfl (by kernel_rfl) (fun _ _ _ h => h) (Or.inl ⟨by rfl, ?_⟩) ?_ ?_
          · intro w'
            go_simp
            try (first | with_reducible rfl | rfl | (simp; done))
          rotate_left
          · simp only [Act.put, List.setIfInBounds_toArray, List.set_cons_zero, List.set_cons_succ]
            rfl
          refine pure_ (i := 7) (N := some 84) (v := (.pointer (some ⟨wo.heap.size, 0, none⟩))) (a' := ?_) #[true, true, true, true, true, true, true, true, false, false, false, false, false, false, false, false, false, false] rfl rfl (by kernel_rfl) (fun _ _ _ h => h) (Or.inl ⟨by rfl, ?_⟩) ?_ ?_
          · intro w'
            go_simp
            try (first | with_reducible rfl | rfl | (simp; done))
          rotate_left
          · simp only [Act.put, List.setIfInBounds_toArray, List.set_cons_zero, List.set_cons_succ]
            rfl
          refine take_ (i := 8) (N := some 85) (v := (.agg #[.bool t.r0.ok, .int .i64 t.r0.x])) (a' := ?_) #[true, true, true, true, true, true, true, true, true, false, false, false, false, false, false, false, false, false] rfl rfl (by kernel_rfl) (fun _ _ _ h => h) (Or.inl ⟨by rfl, ?_⟩) hHeld ?_ ?_
          · intro w' hS'
            obtain ⟨s0, s1, s2, s3, s4', s5⟩ := tkb_cells hS'
            go_simp
            try (first | with_reducible rfl | rfl | (simp; done))
          rotate_left
          · simp only [Act.put, List.setIfInBounds_toArray, List.set_cons_zero, List.set_cons_succ]
            rfl
          refine pure_ (i := 9) (N := some 86) (v := (.int .i64 2)) (a' := ?_) #[true, true, true, true, true, true, true, true, true, true, false, false, false, false, false, false, false, false] rfl rfl (by kernel_rfl) (fun _ _ _ h => h) (Or.inl ⟨by rfl, ?_⟩) ?_ ?_
          · intro w'
            go_simp
            try (first | with_reducible rfl | rfl | (simp; done))
          rotate_left
          · simp only [Act.put, List.setIfInBounds_toArray, List.set_cons_zero, List.set_cons_succ]
            rfl
          refine pure_ (i := 10) (N := some 87) (v := (.int .i64 4)) (a' := ?_) #[true, true, true, true, true, true, true, true, true, true, true, false, false, false, false, false, false, false] rfl rfl (by kernel_rfl) (fun _ _ _ h => h) (Or.inl ⟨by rfl, ?_⟩) ?_ ?_
          · intro w'
            go_simp
            try (first | with_reducible rfl | rfl | (simp; done))
          rotate_left
          · simp only [Act.put, List.setIfInBounds_toArray, List.set_cons_zero, List.set_cons_succ]
            rfl
          refine pure_ (i := 11) (N := some 88) (v := (.int .i64 1)) (a' := ?_) #[true, true, true, true, true, true, true, true, true, true, true, true, false, false, false, false, false, false] rfl rfl (by kernel_rfl) (fun _ _ _ h => h) (Or.inl ⟨by rfl, ?_⟩) ?_ ?_
          · intro w'
            go_simp
            try (first | with_reducible rfl | rfl | (simp; done))
          rotate_left
          · simp only [Act.put, List.setIfInBounds_toArray, List.set_cons_zero, List.set_cons_succ]
            rfl
          refine pure_ (i := 12) (N := some 89) (v := (.pointer (some ⟨wo.heap.size, 2, none⟩))) (a' := ?_) #[true, true, true, true, true, true, true, true, true, true, true, true, true, false, false, false, false, false] rfl rfl (by kernel_rfl) (fun _ _ _ h => h) (Or.inl ⟨by rfl, ?_⟩) ?_ ?_
          · intro w'
            go_simp
            try (first | with_reducible rfl | rfl | (simp; done))
          rotate_left
          · simp only [Act.put, List.setIfInBounds_toArray, List.set_cons_zero, List.set_cons_succ]
            rfl
          refine take_ (i := 13) (N := some 90) (v := (.agg #[.bool t.r1.ok, .int .i64 t.r1.x])) (a' := ?_) #[true, true, true, true, true, true, true, true, true, true, true, true, true, true, false, false, false, false] rfl rfl (by kernel_rfl) (fun _ _ _ h => h) (Or.inl ⟨by rfl, ?_⟩) hHeld ?_ ?_
          · intro w' hS'
            obtain ⟨s0, s1, s2, s3, s4', s5⟩ := tkb_cells hS'
            go_simp
            try (first | with_reducible rfl | rfl | (simp; done))
          rotate_left
          · simp only [Act.put, List.setIfInBounds_toArray, List.set_cons_zero, List.set_cons_succ]
            rfl
          refine pure_ (i := 14) (N := some 91) (v := (ub t.r2 t.r0 t.r1)) (a' := ?_) #[true, true, true, true, true, true, true, true, true, true, true, true, true, true, true, false, false, false] rfl rfl (by kernel_rfl) (fun _ _ _ h => h) (Or.inl ⟨by rfl, ?_⟩) ?_ ?_
          · intro w'
            go_simp
            try (first | with_reducible rfl | rfl | (simp; done))
          rotate_left
          · simp only [Act.put, List.setIfInBounds_toArray, List.set_cons_zero, List.set_cons_succ]
            rfl
          refine join_ (σ := Nat) 0 #[true, true, true, true, true, true, true, true, true, true, true, true, true, true, true, true, true, true] (fun b => [(92, (.agg #[.bool o, .int .i64 x])), (15, .pointer (some ⟨b, 0, none⟩))]) (AftB (w.heap.size + 1) (w.heap.size + 1 + 1) s4 (rot2 s4) g o x W1) ?_ ?_
          · rintro b5 W5 hF
            refine norm_ (a' := ?_) ?_ ?_
            rotate_left
            · simp only [putAll, Act.put, List.setIfInBounds_toArray, List.set_cons_zero, List.set_cons_succ]
              rfl
            refine done_ (by kernel_rfl) ?_
            obtain ⟨hv5, hu5, ha5, hc5, hB5⟩ := hF
            replace hv5 := hid hv5
            replace hu5 := hid hu5
            replace ha5 := hid ha5
            replace hc5 := hid hc5
            replace hB5 := hid hB5
            clear hV4 hU4 hA4 hB4 hT4 hT_ hstepu hHeld
            go_wp2_with fail
            refine (ages_any (w.heap.size + 1) s4 _ hv5.out).mono ?_
            rintro e W6 ⟨rfl, hb⟩
            have hv6 := hid (carry_a (o' := agb s4.a0 s4.a1 s4.a2) (carry_b hb hv5.out))
            have hu6 := hid (carry_a (o' := agb s4.a0 s4.a1 s4.a2) (carry_b hb hu5.out))
            have ha6 := hid (carry_a (o' := agb s4.a0 s4.a1 s4.a2) (carry_b hb ha5.out))
            have hc6 := hid (carry_a (o' := agb s4.a0 s4.a1 s4.a2) (carry_b hb hc5.out))
            have hm6 := hid (heap_alloc_new W6 (agb s4.a0 s4.a1 s4.a2))
            have hB6 := hid ((hB5.out.trans (hb.mono hB5.out.size)).alloc (hB5.out.trans (hb.mono hB5.out.size)).size (agb s4.a0 s4.a1 s4.a2))
            clear hb hv5 hu5 ha5 hc5 hB5
            go_wp2_with fail
            refine (rot2_ages (w.heap.size + 1 + 1) s4 _ hu6.out).mono ?_
            rintro e W7 ⟨rfl, hb⟩
            have hv7 := hid (carry_a (o' := (agb s4.a2 s4.a0 s4.a1)) (carry_b hb hv6.out))
            have hu7 := hid (carry_a (o' := (agb s4.a2 s4.a0 s4.a1)) (carry_b hb hu6.out))
            have ha7 := hid (carry_a (o' := (agb s4.a2 s4.a0 s4.a1)) (carry_b hb ha6.out))
            have hc7 := hid (carry_a (o' := (agb s4.a2 s4.a0 s4.a1)) (carry_b hb hc6.out))
            have hm7 := hid (carry_a (o' := (agb s4.a2 s4.a0 s4.a1)) (carry_b hb hm6.out))
            have hn7 := hid (heap_alloc_new W7 (agb s4.a2 s4.a0 s4.a1))
            have hB7 := hid ((hB6.out.trans (hb.mono hB6.out.size)).alloc (hB6.out.trans (hb.mono hB6.out.size)).size (agb s4.a2 s4.a0 s4.a1))
            clear hb hv6 hu6 ha6 hc6 hm6 hB6
            go_wp2_with fail
            generalize W7.alloc (agb s4.a2 s4.a0 s4.a1) = W8 at *
            generalize W7.heap.size = g7 at *
            generalize W6.heap.size = g6 at *
            obtain ⟨a0, a1⟩ := rb_cells ha7.out
            obtain ⟨b0, b1⟩ := rb_cells hc7.out
            obtain ⟨m0, m1, m2⟩ := agb_cells hm7.out
            obtain ⟨n0, n1, n2⟩ := agb_cells hn7.out
            replace a0 := lat_fact a0
            replace a1 := lat_fact a1
            replace b0 := lat_fact b0
            replace b1 := lat_fact b1
            replace m0 := lat_fact m0
            replace m1 := lat_fact m1
            replace m2 := lat_fact m2
            replace n0 := lat_fact n0
            replace n1 := lat_fact n1
            replace n2 := lat_fact n2
            have hs8 := hid (show w.heap.size ≤ W8.heap.size from by have := hB7.out.size; omega)
            refine wp_region_later_lit (by kernel_rfl) (by kernel_rfl) ?_
            repeat (go_big_quiet_step (first | (with_reducible exact splits_later (w.heap.size + 1) s4 hv7.out) | exact rot2_splits (w.heap.size + 1 + 1) s4 hu7.out))
            refine wpQuiet_nil ?_
            rintro _ ⟨nq, rfl⟩
            go_wp2
            go_roundw
            case rel => exact ⟨i + 1, s4, by simp, by omega, hok4, hid (lat_heap hv7.out nq), hid (lat_heap hu7.out nq), hid (hB7.out.trans ((lat_below W8 nq).mono hB7.out.size))⟩
            case measure => simp [intOf]; omega
          · intro hJ
            have hUd : W.drew.heap[w.heap.size + 1 + 1]? = _ := hU4.out
            have hVd : W.drew.heap[w.heap.size + 1]? = _ := hV4.out
            have hAd : W.drew.heap[g]? = _ := hA4.out
            have hTd : W.drew.heap[wo.heap.size]? = _ := hT4.out
            have hBd : Below W1.heap.size W1 W.drew := hB4.out.drew
            refine two_ (i := 15) (j := 16) (Ni := some 92) (Nj := some 15) #[true, true, true, true, true, true, true, true, true, true, true, true, true, true, true, true, false, false] #[true, true, true, true, true, true, true, true, true, true, true, true, true, true, true, false, true, false] rfl rfl rfl rfl (by kernel_rfl) (by simp) (by simp) (fun K hK => ?_) (fun K hK => ?_)
            · refine goes_ Try.func14 (by kernel_rfl) rfl #[.pointer (some ⟨w.heap.size + 1 + 1, 0, none⟩), ub t.r2 t.r0 t.r1] (by rfl) rfl rfl (by (try simp only [List.map_toArray, List.map_cons, List.map_nil]); first | done | rfl) ?_
              refine (hstepu.out W.drew hUd).mono ?_
              rintro e w5 ⟨rfl, hp⟩
              have hT5 : w5.heap[wo.heap.size]? = some (tkb t) := carry_p hp hTd (by omega)
              refine ⟨_, rfl, hK.out _ _ hT5 (fun _ => ?_)⟩
              clear hK K
              refine one_ (i := 16) (N := some 15) #[true, true, true, true, true, true, true, true, true, true, true, true, true, true, true, true, true, false] rfl rfl (by kernel_rfl) (by simp) (fun K hK => ?_)
              refine value_ (v := .pointer (some ⟨w5.heap.size, 0, none⟩)) (w1 := w5.alloc (rb false 0)) (by rfl) rfl (by go_simp) ?_
              refine hK.out _ _ (carry_a hT5) (fun _ => ?_)
              clear hK K
              refine one_ (i := 17) (N := none) #[true, true, true, true, true, true, true, true, true, true, true, true, true, true, true, true, true, true] rfl rfl (by kernel_rfl) (by simp) (fun K hK => ?_)
              refine skip_ (w1 := ?_) (by rfl) rfl ?_ ?_
              rotate_left
              · go_simp
                rfl
              refine hK.out _ _ (carry_a hT5) (fun _ => ?_)
              clear hK K
              exact hJ w5.heap.size _ ⟨carry_a (carry_p hp hVd (by omega)), carry_a hp.at_, carry_a (carry_p hp hAd hn1.out), heap_alloc_new w5 _, (hBd.trans ((hp.mono hBd.size).below (by omega))).alloc (hBd.trans ((hp.mono hBd.size).below (by omega))).size _⟩
            · refine value_ (v := .pointer (some ⟨W.drew.heap.size, 0, none⟩)) (w1 := W.drew.alloc (rb false 0)) (by rfl) rfl (by go_simp) ?_
              refine hK.out _ _ (carry_a hTd) (fun _ => ?_)
              clear hK K
              refine one_ (i := 15) (N := some 92) #[true, true, true, true, true, true, true, true, true, true, true, true, true, true, true, true, true, false] rfl rfl (by kernel_rfl) (by simp) (fun K hK => ?_)
              refine goes_ Try.func14 (by kernel_rfl) rfl #[.pointer (some ⟨w.heap.size + 1 + 1, 0, none⟩), ub t.r2 t.r0 t.r1] (by rfl) rfl rfl (by (try simp only [List.map_toArray, List.map_cons, List.map_nil]); first | done | rfl) ?_
              refine (hstepu.out _ (carry_a hUd)).mono ?_
              rintro e w5 ⟨rfl, hp⟩
              have hT5 : w5.heap[wo.heap.size]? = some (tkb t) := carry_p hp (carry_a hTd) (by omega)
              have hne : W.heap.size ≠ w.heap.size + 1 + 1 := by have := heap_lt hU4.out; omega
              have hA5 : w5.heap[W.heap.size]? = some (rb false 0) := carry_p hp (heap_alloc_new W.drew (rb false 0)) hne
              obtain ⟨p0, p1⟩ := rb_fz hA5
              obtain ⟨p2, p3⟩ := rb_cells hA5
              have hlt5 := heap_lt hA5
              refine ⟨_, rfl, hK.out _ _ hT5 (fun _ => ?_)⟩
              clear hK K
              refine one_ (i := 17) (N := none) #[true, true, true, true, true, true, true, true, true, true, true, true, true, true, true, true, true, true] rfl rfl (by kernel_rfl) (by simp) (fun K hK => ?_)
              refine skip_ (w1 := ?_) (by rfl) rfl ?_ ?_
              rotate_left
              · go_simp
                rfl
              refine hK.out _ _ (set2_other hT5 (by have := heap_lt hT4.out; omega)) (fun _ => ?_)
              clear hK K
              have hF := hJ W.heap.size _ ⟨set2_other (carry_p hp (carry_a hVd) (by omega)) (by have := heap_lt hV4.out; omega), set2_other hp.at_ hne.symm, set2_other (carry_p hp (carry_a hAd) hn1.out) (by have := heap_lt hA4.out; omega), rb_set2 o x hA5, set2_below (hBd.alloc hB4.out.size (rb false 0) |>.trans ((hp.mono (by simp; exact Nat.le_succ_of_le hB4.out.size)).below (by omega))) hB4.out.size⟩
              simp only [putAll, Act.put, List.setIfInBounds_toArray, List.set_cons_zero, List.set_cons_succ] at hF ⊢
              exact hF
        · have hin : i = n := by omega
          go_wp2_with fail
          refine (awake_any _).mono ?_
          rintro e w9 ⟨rfl, hb9⟩
          have hb9 := hid (hw1.out.trans ((hb.out.trans (hb9.mono (by omega))).mono (by omega)))
          go_wp2
          go_ret
          exact ⟨rfl, hb9.out⟩
    · go_wp2_with fail
      go_loopw [12] (fun v12 wr => ∃ (i : Nat) (s : Vr), v12 = .int .i64 i ∧ i ≤ n ∧ Hid s.ok ∧ Hid (wr.heap[w.heap.size + 1]? = some (vb s)) ∧ Hid (wr.heap[w.heap.size + 1 + 1]? = some (vb (rot1 s))) ∧ Hid (Below W1.heap.size W1 wr)) (fun v _ => n - (intOf v).toNat)
      case atStart => exact ⟨0, new0 stale split, rfl, by omega, hid (new0_ok hs0 hs1 hp0), hv3, hu3, hb3⟩
      case round =>
        obtain ⟨i, s, rfl, hi, hok, hv, hu, hb⟩ := hrel
        clear hv3 hu3 hb3
        obtain ⟨wo, rfl⟩ : ∃ wo, wo = wr := ⟨_, rfl⟩
        have x1 := (hb.out.cell (World.block_lt_of_cell? W1 _ x0.out)).trans x0.out
        have hzr := hb.out.size
        rw [hz1] at hzr
        by_cases hlt : i < n
        · obtain ⟨t, ht⟩ : ∃ t, ts[i]? = some t := ⟨ts[i]'(by omega), List.getElem?_eq_getElem (by omega)⟩
          obtain ⟨bb, off, rfl, hbb, twf, t0, t1, t2, t3, t4, t5⟩ := ht1.out.below hb.out i t ht
          replace ht := hid ht
          replace twf := hid twf
          have hNv := heap_lt hv.out
          have hNu := heap_lt hu.out
          go_wp2_with fail
          refine (step_ok (w.heap.size + 1) s t.r0 t.r1 t.r2 _ (carry_a hv.out) hok.out twf.out.1 twf.out.2.1 twf.out.2.2).mono ?_
          rintro e w4 ⟨rfl, hp⟩
          have hv4 := hid hp.at_
          have hu4 := hid (carry_p hp (carry_a hu.out) (by omega))
          have ht4 := hid (carry_p hp (heap_alloc_new wo (tkb t)) (by omega))
          have hb4 := hid ((hb.out.alloc hb.out.size (tkb t)).trans ((hp.mono (by simp; omega)).below (by omega)))
          have hstepu := hid (fun W h => rot1_step (w.heap.size + 1 + 1) s t.r0 t.r1 t.r2 W h hok.out twf.out.1 twf.out.2.1 twf.out.2.2)
          have hok4 := hid (fin_ok hok.out twf.out.1 twf.out.2.1 twf.out.2.2)
          generalize decide ((vlK s t.r0 t.r1 t.r2 3).length ≠ 0) = o at *
          generalize pick (vlK s t.r0 t.r1 t.r2 3) = x at *
          generalize fin s t.r0 t.r1 t.r2 = s4 at *
          clear hp hv hu hb t0 t1 t2 t3 t4 t5 x1
          have hT4 := hid (carry_a (o' := rb o x) ht4.out)
          obtain ⟨k0, k1, k2, k3, k4, k5⟩ := tkb_cells hT4.out
          have hV4 := hid (carry_a (o' := rb o x) hv4.out)
          have hU4 := hid (carry_a (o' := rb o x) hu4.out)
          have hA4 := hid (heap_alloc_new w4 (rb o x))
          have hB4 := hid (hb4.out.alloc hb4.out.size (rb o x))
          have hn1 : w4.heap.size ≠ w.heap.size + 1 + 1 := by have := heap_lt hu4.out; omega
          replace hn1 := hid hn1
          clear hv4 hu4 ht4 hb4
          go_wp2_with fail
          generalize w4.alloc (rb o x) = W at *
          generalize w4.heap.size = g at *
          have hT_ : (fun w' : World => w'.heap[wo.heap.size]? = some (tkb t)) W.drew := hT4.out
          refine start_ (n := 18) (S := (fun w' => w'.heap[wo.heap.size]? = some (tkb t))) (ds := []) #[false, false, false, false, false, false, false, false, false, false, false, false, false, false, false, false, false, false] (by kernel_rfl) rfl rfl hT_ (fun hHeld => ?_)
          refine pure_ (i := 0) (N := some 77) (v := (.pointer (some ⟨w.heap.size + 1 + 1, 0, none⟩))) (a' := ?_) #[true, false, false, false, false, false, false, false, false, false, false, false, false, false, false, false, false, false] rfl rfl (by kernel_rfl) (fun _ _ _ h => h) (Or.inl ⟨by rfl, ?_⟩) ?_ ?_
          · intro w'
            go_simp
            try (first | with_reducible rfl | rfl | (simp; done))
          rotate_left
          · simp only [Act.put, List.setIfInBounds_toArray, List.set_cons_zero, List.set_cons_succ]
            rfl
          refine pure_ (i := 1) (N := some 78) (v := (.int .i64 1)) (a' := ?_) #[true, true, false, false, false, false, false, false, false, false, false, false, false, false, false, false, false, false] rfl rfl (by kernel_rfl) (fun _ _ _ h => h) (Or.inl ⟨by rfl, ?_⟩) ?_ ?_
          · intro w'
            go_simp
            try (first | with_reducible rfl | rfl | (simp; done))
          rotate_left
          · simp only [Act.put, List.setIfInBounds_toArray, List.set_cons_zero, List.set_cons_succ]
            rfl
          refine pure_ (i := 2) (N := some 79) (v := (.pointer (some ⟨wo.heap.size, 2, none⟩))) (a' := ?_) #[true, true, true, false, false, false, false, false, false, false, false, false, false, false, false, false, false, false] rfl rfl (by kernel_rfl) (fun _ _ _ h => h) (Or.inl ⟨by rfl, ?_⟩) ?_ ?_
          · intro w'
            go_simp
            try (first | with_reducible rfl | rfl | (simp; done))
          rotate_left
          · simp only [Act.put, List.setIfInBounds_toArray, List.set_cons_zero, List.set_cons_succ]
            rfl
          refine take_ (i := 3) (N := some 80) (v := (.agg #[.bool t.r1.ok, .int .i64 t.r1.x])) (a' := ?_) #[true, true, true, true, false, false, false, false, false, false, false, false, false, false, false, false, false, false] rfl rfl (by kernel_rfl) (fun _ _ _ h => h) (Or.inl ⟨by rfl, ?_⟩) hHeld ?_ ?_
          · intro w' hS'
            obtain ⟨s0, s1, s2, s3, s4', s5⟩ := tkb_cells hS'
            go_simp
            try (first | with_reducible rfl | rfl | (simp; done))
          rotate_left
          · simp only [Act.put, List.setIfInBounds_toArray, List.set_cons_zero, List.set_cons_succ]
            rfl
          refine pure_ (i := 4) (N := some 81) (v := (.int .i64 1)) (a' := ?_) #[true, true, true, true, true, false, false, false, false, false, false, false, false, false, false, false, false, false] rfl rfl (by kernel_rfl) (fun _ _ _ h => h) (Or.inl ⟨by rfl, ?_⟩) ?_ ?_
          · intro w'
            go_simp
            try (first | with_reducible rfl | rfl | (simp; done))
          rotate_left
          · simp only [Act.put, List.setIfInBounds_toArray, List.set_cons_zero, List.set_cons_succ]
            rfl
          refine pure_ (i := 5) (N := some 82) (v := (.int .i64 2)) (a' := ?_) #[true, true, true, true, true, true, false, false, false, false, false, false, false, false, false, false, false, false] rfl rfl (by kernel_rfl) (fun _ _ _ h => h) (Or.inl ⟨by rfl, ?_⟩) ?_ ?_
          · intro w'
            go_simp
            try (first | with_reducible rfl | rfl | (simp; done))
          rotate_left
          · simp only [Act.put, List.setIfInBounds_toArray, List.set_cons_zero, List.set_cons_succ]
            rfl
          refine pure_ (i := 6) (N := some 83) (v := (.int .i64 2)) (a' := ?_) #[true, true, true, true, true, true, true, false, false, false, false, false, false, false, false, false, false, false] rfl rfl (by kernel_rfl) (fun _ _ _ h => h) (Or.inl ⟨by rfl, ?_⟩) ?_ ?_
          · intro w'
            go_simp
            try (first | with_reducible rfl | rfl | (simp; done))
          rotate_left
          · simp only [Act.put, List.setIfInBounds_toArray, List.set_cons_zero, List.set_cons_succ]
            rfl
          refine pure_ (i := 7) (N := some 84) (v := (.pointer (some ⟨wo.heap.size, 4, none⟩))) (a' := ?_) #[true, true, true, true, true, true, true, true, false, false, false, false, false, false, false, false, false, false] rfl rfl (by kernel_rfl) (fun _ _ _ h => h) (Or.inl ⟨by rfl, ?_⟩) ?_ ?_
          · intro w'
            go_simp
            try (first | with_reducible rfl | rfl | (simp; done))
          rotate_left
          · simp only [Act.put, List.setIfInBounds_toArray, List.set_cons_zero, List.set_cons_succ]
            rfl
          refine take_ (i := 8) (N := some 85) (v := (.agg #[.bool t.r2.ok, .int .i64 t.r2.x])) (a' := ?_) #[true, true, true, true, true, true, true, true, true, false, false, false, false, false, false, false, false, false] rfl rfl (by kernel_rfl) (fun _ _ _ h => h) (Or.inl ⟨by rfl, ?_⟩) hHeld ?_ ?_
          · intro w' hS'
            obtain ⟨s0, s1, s2, s3, s4', s5⟩ := tkb_cells hS'
            go_simp
            try (first | with_reducible rfl | rfl | (simp; done))
          rotate_left
          · simp only [Act.put, List.setIfInBounds_toArray, List.set_cons_zero, List.set_cons_succ]
            rfl
          refine pure_ (i := 9) (N := some 86) (v := (.int .i64 1)) (a' := ?_) #[true, true, true, true, true, true, true, true, true, true, false, false, false, false, false, false, false, false] rfl rfl (by kernel_rfl) (fun _ _ _ h => h) (Or.inl ⟨by rfl, ?_⟩) ?_ ?_
          · intro w'
            go_simp
            try (first | with_reducible rfl | rfl | (simp; done))
          rotate_left
          · simp only [Act.put, List.setIfInBounds_toArray, List.set_cons_zero, List.set_cons_succ]
            rfl
          refine pure_ (i := 10) (N := some 87) (v := (.int .i64 3)) (a' := ?_) #[true, true, true, true, true, true, true, true, true, true, true, false, false, false, false, false, false, false] rfl rfl (by kernel_rfl) (fun _ _ _ h => h) (Or.inl ⟨by rfl, ?_⟩) ?_ ?_
          · intro w'
            go_simp
            try (first | with_reducible rfl | rfl | (simp; done))
          rotate_left
          · simp only [Act.put, List.setIfInBounds_toArray, List.set_cons_zero, List.set_cons_succ]
            rfl
          refine pure_ (i := 11) (N := some 88) (v := (.int .i64 0)) (a' := ?_) #[true, true, true, true, true, true, true, true, true, true, true, true, false, false, false, false, false, false] rfl rfl (by kernel_rfl) (fun _ _ _ h => h) (Or.inl ⟨by rfl, ?_⟩) ?_ ?_
          · intro w'
            go_simp
            try (first | with_reducible rfl | rfl | (simp; done))
          rotate_left
          · simp only [Act.put, List.setIfInBounds_toArray, List.set_cons_zero, List.set_cons_succ]
            rfl
          refine pure_ (i := 12) (N := some 89) (v := (.pointer (some ⟨wo.heap.size, 0, none⟩))) (a' := ?_) #[true, true, true, true, true, true, true, true, true, true, true, true, true, false, false, false, false, false] rfl rfl (by kernel_rfl) (fun _ _ _ h => h) (Or.inl ⟨by rfl, ?_⟩) ?_ ?_
          · intro w'
            go_simp
            try (first | with_reducible rfl | rfl | (simp; done))
          rotate_left
          · simp only [Act.put, List.setIfInBounds_toArray, List.set_cons_zero, List.set_cons_succ]
            rfl
          refine take_ (i := 13) (N := some 90) (v := (.agg #[.bool t.r0.ok, .int .i64 t.r0.x])) (a' := ?_) #[true, true, true, true, true, true, true, true, true, true, true, true, true, true, false, false, false, false] rfl rfl (by kernel_rfl) (fun _ _ _ h => h) (Or.inl ⟨by rfl, ?_⟩) hHeld ?_ ?_
          · intro w' hS'
            obtain ⟨s0, s1, s2, s3, s4', s5⟩ := tkb_cells hS'
            go_simp
            try (first | with_reducible rfl | rfl | (simp; done))
          rotate_left
          · simp only [Act.put, List.setIfInBounds_toArray, List.set_cons_zero, List.set_cons_succ]
            rfl
          refine pure_ (i := 14) (N := some 91) (v := (ub t.r1 t.r2 t.r0)) (a' := ?_) #[true, true, true, true, true, true, true, true, true, true, true, true, true, true, true, false, false, false] rfl rfl (by kernel_rfl) (fun _ _ _ h => h) (Or.inl ⟨by rfl, ?_⟩) ?_ ?_
          · intro w'
            go_simp
            try (first | with_reducible rfl | rfl | (simp; done))
          rotate_left
          · simp only [Act.put, List.setIfInBounds_toArray, List.set_cons_zero, List.set_cons_succ]
            rfl
          refine join_ (σ := Nat) 0 #[true, true, true, true, true, true, true, true, true, true, true, true, true, true, true, true, true, true] (fun b => [(92, (.agg #[.bool o, .int .i64 x])), (15, .pointer (some ⟨b, 0, none⟩))]) (AftB (w.heap.size + 1) (w.heap.size + 1 + 1) s4 (rot1 s4) g o x W1) ?_ ?_
          · rintro b5 W5 hF
            refine norm_ (a' := ?_) ?_ ?_
            rotate_left
            · simp only [putAll, Act.put, List.setIfInBounds_toArray, List.set_cons_zero, List.set_cons_succ]
              rfl
            refine done_ (by kernel_rfl) ?_
            obtain ⟨hv5, hu5, ha5, hc5, hB5⟩ := hF
            replace hv5 := hid hv5
            replace hu5 := hid hu5
            replace ha5 := hid ha5
            replace hc5 := hid hc5
            replace hB5 := hid hB5
            clear hV4 hU4 hA4 hB4 hT4 hT_ hstepu hHeld
            go_wp2_with fail
            refine (ages_any (w.heap.size + 1) s4 _ hv5.out).mono ?_
            rintro e W6 ⟨rfl, hb⟩
            have hv6 := hid (carry_a (o' := agb s4.a0 s4.a1 s4.a2) (carry_b hb hv5.out))
            have hu6 := hid (carry_a (o' := agb s4.a0 s4.a1 s4.a2) (carry_b hb hu5.out))
            have ha6 := hid (carry_a (o' := agb s4.a0 s4.a1 s4.a2) (carry_b hb ha5.out))
            have hc6 := hid (carry_a (o' := agb s4.a0 s4.a1 s4.a2) (carry_b hb hc5.out))
            have hm6 := hid (heap_alloc_new W6 (agb s4.a0 s4.a1 s4.a2))
            have hB6 := hid ((hB5.out.trans (hb.mono hB5.out.size)).alloc (hB5.out.trans (hb.mono hB5.out.size)).size (agb s4.a0 s4.a1 s4.a2))
            clear hb hv5 hu5 ha5 hc5 hB5
            go_wp2_with fail
            refine (rot1_ages (w.heap.size + 1 + 1) s4 _ hu6.out).mono ?_
            rintro e W7 ⟨rfl, hb⟩
            have hv7 := hid (carry_a (o' := (agb s4.a1 s4.a2 s4.a0)) (carry_b hb hv6.out))
            have hu7 := hid (carry_a (o' := (agb s4.a1 s4.a2 s4.a0)) (carry_b hb hu6.out))
            have ha7 := hid (carry_a (o' := (agb s4.a1 s4.a2 s4.a0)) (carry_b hb ha6.out))
            have hc7 := hid (carry_a (o' := (agb s4.a1 s4.a2 s4.a0)) (carry_b hb hc6.out))
            have hm7 := hid (carry_a (o' := (agb s4.a1 s4.a2 s4.a0)) (carry_b hb hm6.out))
            have hn7 := hid (heap_alloc_new W7 (agb s4.a1 s4.a2 s4.a0))
            have hB7 := hid ((hB6.out.trans (hb.mono hB6.out.size)).alloc (hB6.out.trans (hb.mono hB6.out.size)).size (agb s4.a1 s4.a2 s4.a0))
            clear hb hv6 hu6 ha6 hc6 hm6 hB6
            go_wp2_with fail
            generalize W7.alloc (agb s4.a1 s4.a2 s4.a0) = W8 at *
            generalize W7.heap.size = g7 at *
            generalize W6.heap.size = g6 at *
            obtain ⟨a0, a1⟩ := rb_cells ha7.out
            obtain ⟨b0, b1⟩ := rb_cells hc7.out
            obtain ⟨m0, m1, m2⟩ := agb_cells hm7.out
            obtain ⟨n0, n1, n2⟩ := agb_cells hn7.out
            replace a0 := lat_fact a0
            replace a1 := lat_fact a1
            replace b0 := lat_fact b0
            replace b1 := lat_fact b1
            replace m0 := lat_fact m0
            replace m1 := lat_fact m1
            replace m2 := lat_fact m2
            replace n0 := lat_fact n0
            replace n1 := lat_fact n1
            replace n2 := lat_fact n2
            have hs8 := hid (show w.heap.size ≤ W8.heap.size from by have := hB7.out.size; omega)
            refine wp_region_later_lit (by kernel_rfl) (by kernel_rfl) ?_
            repeat (go_big_quiet_step (first | (with_reducible exact splits_later (w.heap.size + 1) s4 hv7.out) | exact rot1_splits (w.heap.size + 1 + 1) s4 hu7.out))
            refine wpQuiet_nil ?_
            rintro _ ⟨nq, rfl⟩
            go_wp2
            go_roundw
            case rel => exact ⟨i + 1, s4, by simp, by omega, hok4, hid (lat_heap hv7.out nq), hid (lat_heap hu7.out nq), hid (hB7.out.trans ((lat_below W8 nq).mono hB7.out.size))⟩
            case measure => simp [intOf]; omega
          · intro hJ
            have hUd : W.drew.heap[w.heap.size + 1 + 1]? = _ := hU4.out
            have hVd : W.drew.heap[w.heap.size + 1]? = _ := hV4.out
            have hAd : W.drew.heap[g]? = _ := hA4.out
            have hTd : W.drew.heap[wo.heap.size]? = _ := hT4.out
            have hBd : Below W1.heap.size W1 W.drew := hB4.out.drew
            refine two_ (i := 15) (j := 16) (Ni := some 92) (Nj := some 15) #[true, true, true, true, true, true, true, true, true, true, true, true, true, true, true, true, false, false] #[true, true, true, true, true, true, true, true, true, true, true, true, true, true, true, false, true, false] rfl rfl rfl rfl (by kernel_rfl) (by simp) (by simp) (fun K hK => ?_) (fun K hK => ?_)
            · refine goes_ Try.func14 (by kernel_rfl) rfl #[.pointer (some ⟨w.heap.size + 1 + 1, 0, none⟩), ub t.r1 t.r2 t.r0] (by rfl) rfl rfl (by (try simp only [List.map_toArray, List.map_cons, List.map_nil]); first | done | rfl) ?_
              refine (hstepu.out W.drew hUd).mono ?_
              rintro e w5 ⟨rfl, hp⟩
              have hT5 : w5.heap[wo.heap.size]? = some (tkb t) := carry_p hp hTd (by omega)
              refine ⟨_, rfl, hK.out _ _ hT5 (fun _ => ?_)⟩
              clear hK K
              refine one_ (i := 16) (N := some 15) #[true, true, true, true, true, true, true, true, true, true, true, true, true, true, true, true, true, false] rfl rfl (by kernel_rfl) (by simp) (fun K hK => ?_)
              refine value_ (v := .pointer (some ⟨w5.heap.size, 0, none⟩)) (w1 := w5.alloc (rb false 0)) (by rfl) rfl (by go_simp) ?_
              refine hK.out _ _ (carry_a hT5) (fun _ => ?_)
              clear hK K
              refine one_ (i := 17) (N := none) #[true, true, true, true, true, true, true, true, true, true, true, true, true, true, true, true, true, true] rfl rfl (by kernel_rfl) (by simp) (fun K hK => ?_)
              refine skip_ (w1 := ?_) (by rfl) rfl ?_ ?_
              rotate_left
              · go_simp
                rfl
              refine hK.out _ _ (carry_a hT5) (fun _ => ?_)
              clear hK K
              exact hJ w5.heap.size _ ⟨carry_a (carry_p hp hVd (by omega)), carry_a hp.at_, carry_a (carry_p hp hAd hn1.out), heap_alloc_new w5 _, (hBd.trans ((hp.mono hBd.size).below (by omega))).alloc (hBd.trans ((hp.mono hBd.size).below (by omega))).size _⟩
            · refine value_ (v := .pointer (some ⟨W.drew.heap.size, 0, none⟩)) (w1 := W.drew.alloc (rb false 0)) (by rfl) rfl (by go_simp) ?_
              refine hK.out _ _ (carry_a hTd) (fun _ => ?_)
              clear hK K
              refine one_ (i := 15) (N := some 92) #[true, true, true, true, true, true, true, true, true, true, true, true, true, true, true, true, true, false] rfl rfl (by kernel_rfl) (by simp) (fun K hK => ?_)
              refine goes_ Try.func14 (by kernel_rfl) rfl #[.pointer (some ⟨w.heap.size + 1 + 1, 0, none⟩), ub t.r1 t.r2 t.r0] (by rfl) rfl rfl (by (try simp only [List.map_toArray, List.map_cons, List.map_nil]); first | done | rfl) ?_
              refine (hstepu.out _ (carry_a hUd)).mono ?_
              rintro e w5 ⟨rfl, hp⟩
              have hT5 : w5.heap[wo.heap.size]? = some (tkb t) := carry_p hp (carry_a hTd) (by omega)
              have hne : W.heap.size ≠ w.heap.size + 1 + 1 := by have := heap_lt hU4.out; omega
              have hA5 : w5.heap[W.heap.size]? = some (rb false 0) := carry_p hp (heap_alloc_new W.drew (rb false 0)) hne
              obtain ⟨p0, p1⟩ := rb_fz hA5
              obtain ⟨p2, p3⟩ := rb_cells hA5
              have hlt5 := heap_lt hA5
              refine ⟨_, rfl, hK.out _ _ hT5 (fun _ => ?_)⟩
              clear hK K
              refine one_ (i := 17) (N := none) #[true, true, true, true, true, true, true, true, true, true, true, true, true, true, true, true, true, true] rfl rfl (by kernel_rfl) (by simp) (fun K hK => ?_)
              refine skip_ (w1 := ?_) (by rfl) rfl ?_ ?_
              rotate_left
              · go_simp
                rfl
              refine hK.out _ _ (set2_other hT5 (by have := heap_lt hT4.out; omega)) (fun _ => ?_)
              clear hK K
              have hF := hJ W.heap.size _ ⟨set2_other (carry_p hp (carry_a hVd) (by omega)) (by have := heap_lt hV4.out; omega), set2_other hp.at_ hne.symm, set2_other (carry_p hp (carry_a hAd) hn1.out) (by have := heap_lt hA4.out; omega), rb_set2 o x hA5, set2_below (hBd.alloc hB4.out.size (rb false 0) |>.trans ((hp.mono (by simp; exact Nat.le_succ_of_le hB4.out.size)).below (by omega))) hB4.out.size⟩
              simp only [putAll, Act.put, List.setIfInBounds_toArray, List.set_cons_zero, List.set_cons_succ] at hF ⊢
              exact hF
        · have hin : i = n := by omega
          go_wp2_with fail
          refine (awake_any _).mono ?_
          rintro e w9 ⟨rfl, hb9⟩
          have hb9 := hid (hw1.out.trans ((hb.out.trans (hb9.mono (by omega))).mono (by omega)))
          go_wp2
          go_ret
          exact ⟨rfl, hb9.out⟩
end Go.Proofs.Ythhmamdgpfgpfaa
