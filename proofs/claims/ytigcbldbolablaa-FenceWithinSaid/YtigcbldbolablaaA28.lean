/- Lists and fences that are lent. -/
import Derived.Test.YtigcbldbolablaaA27
import Derived.Laws.AppendOwnNone
namespace Go.Proofs.Ytigcbldbolablaa
open Go.RowKit Go.Proofs.YtigcbldbolablaaW.PrintLast
set_option linter.unusedSimpArgs false

abbrev mk2 : List Value := [.int .i64 (-77), .int .i64 (-77)]
/-- A list that is lent, a marked point behind it. -/
def SpGot (l : List Pt) (w : World) (e : Ending) (w' : World) : Prop :=
  ∃ g cap, e = .returned (.slice (some ⟨g, 0, none⟩) l.length cap) ∧ Below w.heap.size w w' ∧ w'.ownsRow w.heap.size 39 2 (.slice (some ⟨g, 0, none⟩) (l.length + 1) cap) (l.length + 1) (ptC l ++ mk2)
theorem own_some2 {w : World} {base : Nat} {e : TypeId} {size : Nat} {v : Value} {n : Nat} {xs : List Value} (h : w.ownsRow base e size v n xs) (hn : n ≠ 0) : ∃ g cap, v = .slice (some ⟨g, 0, none⟩) n cap ∧ n ≤ cap := by
  rcases h.2 with ⟨_, h5⟩ | ⟨g, cap, cur, h5, _, _, h6, _⟩
  · exact absurd h5 hn
  · exact ⟨g, cap, h5, h6⟩
theorem own_cut {w : World} {base g cap n : Nat} {xs ys : List Value} (h : w.ownsRow base 39 2 (.slice (some ⟨g, 0, none⟩) (n + 1) cap) (n + 1) (xs ++ ys)) (hx : xs.length = n * 2) : w.ownsRow base 39 2 (.slice (some ⟨g, 0, none⟩) n cap) n xs := by
  refine ⟨hx, ?_⟩
  rcases h.2 with ⟨h5, _⟩ | ⟨g', cap', cur, h5, h6, h7, h8, h9, h10, h11⟩
  · cases h5
  · cases h5
    refine .inr ⟨g, cap, cur, rfl, h6, h7, by omega, h9, h10, ?_⟩
    have := congrArg (List.take (n * 2)) h11
    rw [List.take_take, Nat.min_eq_left (by omega), List.take_left' hx] at this
    exact this
theorem add_off (ad : Addr) (k : Nat) : (ad.add k).off = ad.off + k := by unfold Addr.add; split <;> simp_all
theorem add_pos {ad : Addr} {k : Nat} (h : k ≠ 0) : ad.add k = ⟨ad.block, ad.off + k, none⟩ := by unfold Addr.add; split <;> simp_all
theorem pts_cells {W : World} {ad : Addr} {l : List Pt} (h : Pts W (some ad) l) : ∀ (j : Nat) (u : Value), (ptC l)[j]? = some u → W.cell? (ad.add j) = some u := by
  intro j u hj
  have hlt : j < (ptC l).length := (List.getElem?_eq_some_iff.1 hj).1
  rw [ptC_len] at hlt
  obtain ⟨e1, e2⟩ := ptC_get l (j / 2) (by omega)
  obtain ⟨c1, c2⟩ := h.nat (j / 2) (by omega)
  rcases Nat.mod_two_eq_zero_or_one j with hm | hm
  · have hj2 : j / 2 * 2 = j := by omega
    rw [hj2] at e1 c1
    rw [hj] at e1
    cases e1
    exact c1
  · have hj2 : j / 2 * 2 + 1 = j := by omega
    rw [hj2] at e2
    rw [hj] at e2
    cases e2
    have ea : (⟨(ad.add (j / 2 * 2)).block, (ad.add (j / 2 * 2)).off + 1, none⟩ : Addr) = ad.add j := by
      rw [add_blk, add_off, add_pos (show j ≠ 0 by omega), Nat.add_assoc, hj2]
    rw [ea] at c2
    exact c2
theorem ptC_one (l : List Pt) : ∀ u ∈ ptC l, u.oneCell' = true := by
  intro u hu
  unfold ptC at hu
  rw [List.mem_flatMap] at hu
  obtain ⟨p, _, hp⟩ := hu
  simp at hp
  rcases hp with rfl | rfl <;> rfl

theorem slice22_to (w : World) (g len cap n : Nat) (h : n ≤ cap) : (Instr.slice 22 (.slice (some ⟨g, 0, none⟩) len cap) none (some (.int .i64 n)) none).run Try.prog w = .ok (.slice (some ⟨g, 0, none⟩) n cap) w := by
  rw [run_slice_h (P := Try.prog) (w := w) 22 (some ⟨g, 0, none⟩) len cap (by kernel_rfl) .i64 n (by omega) (by omega)]
  obtain ⟨i39, hi39, hz39, hs39, hb39⟩ := info39
  have he : Try.prog.elem 22 = 39 := by kernel_rfl
  rw [he]
  simp [sizeOf, typeInfo, hi39, sliced, Addr.add]

set_option maxRecDepth 100000 in
set_option maxHeartbeats 2000000 in
theorem spare_any (A : Option Addr) (c : Nat) (l : List Pt) (w : World) (hp : Pts w A l) (hl : l.length * 16 ≤ 140737488351232) (hA : A = none → c = 0) :
    Calls Try.prog 35 #[.slice A l.length c] w (SpGot l w) := by
  obtain ⟨i39, hi39, hz39, hs39, hb39⟩ := info39
  have HP := hid hp
  clear hp
  have hc3 := hid (show 0 + l.length ≤ maxLen by unfold maxLen; omega)
  have hc1 := hid (show l.length + 1 ≤ maxLen by unfold maxLen; omega)
  have hlen := hid (ptC_len l)
  cases A with
  | none =>
    have hl0 : l.length = 0 := by
      rcases Nat.eq_zero_or_pos l.length with h | h
      · exact h
      · obtain ⟨ad, e, _⟩ := HP.out.some_ h
        cases e
    have hl1 : l = [] := List.length_eq_zero_iff.1 hl0
    subst hl1
    rw [hA rfl]
    clear hl0
    have hn1 := hid (new_pt · (-77) (-77) 39)
    have hone := hid (one_pt (-77) (-77))
    go_enter Try.func35, Try.ntmps35
    go_wp2_with (at_builtin; refine wpList_append_own_none _ rfl _ _ 22 rfl w.heap.size 39 i39 2 Try.underlying22 hi39 _ 0 [] rfl (World.ownsRow_nil _ _ _ _) rfl ?_)
    refine (at_any _ _ _).mono ?_
    rintro e w1 ⟨rfl, hb1⟩
    have HB1 := hid hb1
    clear hb1
    have hsz := hid (show ∀ o, w.heap.size ≤ (w1.alloc o).heap.size from fun o => by have := HB1.out.size; simp; omega)
    go_wp2_with (at_builtin; refine wpList_append_own _ rfl _ _ 22 rfl w.heap.size 39 i39 (.agg #[.int .i64 0, .int .i64 0]) 2 16 Try.underlying22 hi39 hz39 hs39 hb39 rfl (by decide) _ 0 [] rfl (World.ownsRow_nil _ _ _ _) ⟨w1.heap.size, 0, none⟩ 1 1 mk2 rfl rfl (hn1.out w1) hone.out hc1.out (by omega) (hsz.out _) ?_; intro v2 w2 ho2 hg2 hn2; obtain ⟨g, cap, rfl, hcap⟩ := own_some2 ho2 (by omega); have hsl := fun W => slice22_to W g 1 cap 0 (by omega))
    have HX := hid ho2
    have HB2 := hid (below_grown (HB1.out.alloc HB1.out.size _) (hsz.out _) hg2 (fun k e => by cases e))
    clear ho2 hg2 hn2
    go_wp2
    go_ret
    exact ⟨g, cap, rfl, HB2.out, HX.out⟩
  | some ad =>
    have hn := hid (pts_cells HP.out)
    have hone := hid (ptC_one l)
    have hn1 := hid (new_pt · (-77) (-77) 39)
    have hone1 := hid (one_pt (-77) (-77))
    go_enter Try.func35, Try.ntmps35
    go_wp2_with (at_builtin; refine wpList_append_own _ rfl _ _ 22 rfl w.heap.size 39 i39 (.agg #[.int .i64 0, .int .i64 0]) 2 16 Try.underlying22 hi39 hz39 hs39 hb39 rfl (by decide) _ 0 [] rfl (World.ownsRow_nil _ _ _ _) ad l.length c (ptC l) rfl hlen.out hn.out hone.out hc3.out (by omega) (Nat.le_refl _) ?_; intro v1 w1 ho1 hg1 hn1')
    have HO1 := hid (show w1.ownsRow w.heap.size 39 2 v1 l.length (ptC l) by have := ho1; rw [Nat.zero_add] at this; exact this)
    have HB1 := hid (below_grown (Below.refl w.heap.size w) (Nat.le_refl _) hg1 (fun k e => by cases e))
    clear ho1 hg1 hn1' hn hone
    refine (at_any _ _ _).mono ?_
    rintro e w2 ⟨rfl, hb2⟩
    have HO2 := hid (own_below HO1.out hb2)
    have HB2 := hid (below_then HB1.out HB1.out.size hb2)
    clear hb2 HO1 HB1
    have hsz := hid (show ∀ o, w.heap.size ≤ (w2.alloc o).heap.size from fun o => by have := HB2.out.size; simp; omega)
    go_wp2_with (at_builtin; refine wpList_append_own _ rfl _ _ 22 rfl w.heap.size 39 i39 (.agg #[.int .i64 0, .int .i64 0]) 2 16 Try.underlying22 hi39 hz39 hs39 hb39 rfl (by decide) _ l.length (ptC l) rfl (HO2.out.alloc _) ⟨w2.heap.size, 0, none⟩ 1 1 mk2 rfl rfl (hn1.out w2) hone1.out hc1.out (by omega) (hsz.out _) ?_; intro v2 w3 ho3 hg3 hn3; obtain ⟨g, cap, rfl, hcap⟩ := own_some2 ho3 (by omega); have hsl := fun W => slice22_to W g (l.length + 1) cap l.length (by omega))
    have HX := hid ho3
    have HB3 := hid (below_grown (HB2.out.alloc HB2.out.size _) (hsz.out _) hg3 (fun k e => (HO2.out.lt k e).1))
    clear ho3 hg3 hn3
    go_wp2
    go_ret
    exact ⟨g, cap, rfl, HB3.out, HX.out⟩

/-- A fence that is lent: its lists are rows of its own, a marked point behind each. -/
structure FLent (base : Nat) (w : World) (P : FP) (f : Fn) : Prop where
  poly : ∃ g, P.A = some ⟨g, 0, none⟩ ∧ w.ownsRow base 39 2 (.slice (some ⟨g, 0, none⟩) (f.poly.length + 1) P.c) (f.poly.length + 1) (ptC f.poly ++ mk2)
  rl : ∃ g, P.B = some ⟨g, 0, none⟩ ∧ w.ownsRow base 39 2 (.slice (some ⟨g, 0, none⟩) (f.rl.length + 1) P.d) (f.rl.length + 1) (ptC f.rl ++ mk2)
theorem pts_lent {w : World} {base g cap : Nat} {l : List Pt} (h : w.ownsRow base 39 2 (.slice (some ⟨g, 0, none⟩) (l.length + 1) cap) (l.length + 1) (ptC l ++ mk2)) : Pts w (some ⟨g, 0, none⟩) l :=
  pts_own (own_cut h (ptC_len l))
theorem FLent.below {base : Nat} {w w' : World} {P : FP} {f : Fn} (h : FLent base w P f) (hb : Below w.heap.size w w') : FLent base w' P f := by
  obtain ⟨⟨g, e, h1⟩, ⟨g', e', h2⟩⟩ := h
  exact ⟨⟨g, e, own_below h1 hb⟩, ⟨g', e', own_below h2 hb⟩⟩
theorem FLent.frd {base : Nat} {w : World} {P : FP} {f : Fn} (h : FLent base w P f) (h1 : f.poly.length ≤ 4611686018427387904) (h2 : f.rl.length ≤ 4611686018427387904) : FRd w P f := by
  obtain ⟨⟨g, e, k1⟩, ⟨g', e', k2⟩⟩ := h
  exact ⟨by rw [e]; exact pts_lent k1, by rw [e']; exact pts_lent k2, h1, h2⟩
/-- A fence that came in: it reads, and its lists are no greater than what was read may be. -/
structure FIn (w : World) (P : FP) (f : Fn) : Prop where
  rd : FRd w P f
  a : P.A = none → P.c = 0
  b : P.B = none → P.d = 0
  pl : f.poly.length * 16 ≤ 140737488351232
  rll : f.rl.length * 16 ≤ 140737488351232
theorem FIn.below {w w' : World} {P : FP} {f : Fn} (h : FIn w P f) (hb : Below w.heap.size w w') : FIn w' P f := ⟨h.rd.below hb, h.a, h.b, h.pl, h.rll⟩
/-- A fence was lent. -/
def LnGot (f : Fn) (w : World) (e : Ending) (w' : World) : Prop :=
  ∃ P : FP, e = .returned (.agg #[.slice P.A f.poly.length P.c, .int .i64 f.fl, .int .i64 f.ce, .slice P.B f.rl.length P.d]) ∧ Below w.heap.size w w' ∧ FLent w.heap.size w' P f

set_option maxRecDepth 100000 in
set_option maxHeartbeats 4000000 in
theorem lent_any (P : FP) (f : Fn) (w : World) (hr : FIn w P f) :
    Calls Try.prog 16 #[.agg #[.slice P.A f.poly.length P.c, .int .i64 f.fl, .int .i64 f.ce, .slice P.B f.rl.length P.d]] w (LnGot f w) := by
  obtain ⟨W, hW⟩ : ∃ W, W = ((w.alloc (fbk (.slice P.A f.poly.length P.c) f.fl f.ce (.slice P.B f.rl.length P.d))).alloc (fbk (.slice none 0 0) 0 0 (.slice none 0 0))).alloc (fbk (.slice P.A f.poly.length P.c) f.fl f.ce (.slice P.B f.rl.length P.d)) := ⟨_, rfl⟩
  have a0 := hid (show W.heap[w.heap.size]? = some (fbk (.slice P.A f.poly.length P.c) f.fl f.ce (.slice P.B f.rl.length P.d)) by rw [hW]; exact carry_a _ (carry_a _ (heap_alloc_new w _)))
  have b0 := hid (show W.heap[w.heap.size + 1]? = some (fbk (.slice none 0 0) 0 0 (.slice none 0 0)) by rw [hW]; exact carry_a _ (by have := heap_alloc_new (w.alloc (fbk (.slice P.A f.poly.length P.c) f.fl f.ce (.slice P.B f.rl.length P.d))) (fbk (.slice none 0 0) 0 0 (.slice none 0 0)); simpa using this))
  have c0 := hid (show W.heap[w.heap.size + 1 + 1]? = some (fbk (.slice P.A f.poly.length P.c) f.fl f.ce (.slice P.B f.rl.length P.d)) by rw [hW]; have := heap_alloc_new ((w.alloc (fbk (.slice P.A f.poly.length P.c) f.fl f.ce (.slice P.B f.rl.length P.d))).alloc (fbk (.slice none 0 0) 0 0 (.slice none 0 0))) (fbk (.slice P.A f.poly.length P.c) f.fl f.ce (.slice P.B f.rl.length P.d)); simpa using this)
  have B0 := hid (show Below w.heap.size w W by rw [hW]; go_grown)
  have B0sz := hid (show W.heap.size = w.heap.size + 1 + 1 + 1 by rw [hW]; simp)
  have HR := hid hr
  clear hr
  obtain ⟨A, c, B, d⟩ := P
  dsimp only at hW a0 c0 ⊢
  go_enter Try.func16, Try.ntmps16
  go_wp2_with fail
  rw [← hW]
  clear hW
  refine (spare_any A c f.poly W (HR.out.rd.poly.below B0.out) HR.out.pl HR.out.a).mono ?_
  rintro e w1 ⟨g1, k1, rfl, hb1, ho1⟩
  have a1 := hid (carry_b hb1 a0.out)
  have b1 := hid (carry_b hb1 b0.out)
  have c1 := hid (carry_b hb1 c0.out)
  have B1 := hid (below_then B0.out B0.out.size hb1)
  have O1 := hid ho1
  have hz0 := hid (heap_lt c0.out)
  clear a0 b0 c0 B0 hb1 ho1
  obtain ⟨t0, t1, t2, t3⟩ := cells4 c1.out
  obtain ⟨s0, s1, s2, s3⟩ := cells4 a1.out
  have f0 : w1.frozen? ⟨w.heap.size + 1 + 1, 0, none⟩ = false := by simp [World.frozen?, c1.out]
  go_upto_region 3 with fail
  have hWsz := hid B0sz.out
  have a2 := hid ((heap_setCell_other w1 ⟨w.heap.size + 1 + 1, 0, none⟩ w.heap.size (.slice (some ⟨g1, 0, none⟩) f.poly.length k1) (by show w.heap.size ≠ w.heap.size + 1 + 1; omega)).trans a1.out)
  have b2 := hid ((heap_setCell_other w1 ⟨w.heap.size + 1 + 1, 0, none⟩ (w.heap.size + 1) (.slice (some ⟨g1, 0, none⟩) f.poly.length k1) (by show w.heap.size + 1 ≠ w.heap.size + 1 + 1; omega)).trans b1.out)
  have c2 := hid (show (w1.setCell ⟨w.heap.size + 1 + 1, 0, none⟩ (.slice (some ⟨g1, 0, none⟩) f.poly.length k1)).heap[w.heap.size + 1 + 1]? = some (fbk (.slice (some ⟨g1, 0, none⟩) f.poly.length k1) f.fl f.ce (.slice B f.rl.length d)) from (Put.set 0 c1.out).at_)
  have O2 := hid (ownsRow_setCell_other O1.out (a := ⟨w.heap.size + 1 + 1, 0, none⟩) (fun e => by have : W.heap.size ≤ w.heap.size + 1 + 1 := (O1.out.lt _ e).1; have := hWsz.out; omega) (.slice (some ⟨g1, 0, none⟩) f.poly.length k1))
  have B2 := hid (B1.out.setCell (p := ⟨w.heap.size + 1 + 1, 0, none⟩) (by show w.heap.size ≤ w.heap.size + 1 + 1; omega) (.slice (some ⟨g1, 0, none⟩) f.poly.length k1))
  clear t0 t1 t2 t3 s0 s1 s2 s3 f0 a1 b1 c1 O1 B1
  generalize w1.setCell ⟨w.heap.size + 1 + 1, 0, none⟩ (.slice (some ⟨g1, 0, none⟩) f.poly.length k1) = w2 at *
  obtain ⟨t0, t1, t2, t3⟩ := cells4 c2.out
  obtain ⟨s0, s1, s2, s3⟩ := cells4 a2.out
  go_wp2_with fail
  refine (spare_any B d f.rl w2 (HR.out.rd.rl.below B2.out) HR.out.rll HR.out.b).mono ?_
  rintro e w3 ⟨g2, k2, rfl, hb3, ho3⟩
  have b3 := hid (carry_b hb3 b2.out)
  have c3 := hid (carry_b hb3 c2.out)
  have B3 := hid (below_then B2.out B2.out.size hb3)
  have O3 := hid (own_below O2.out hb3)
  have P3 := hid ho3
  have hw2 := hid (heap_lt c2.out)
  clear a2 b2 c2 O2 B2 hb3 ho3 t0 t1 t2 t3 s0 s1 s2 s3
  obtain ⟨t0, t1, t2, t3⟩ := cells4 c3.out
  have f3 : w3.frozen? ⟨w.heap.size + 1 + 1, 3, none⟩ = false := by simp [World.frozen?, c3.out]
  go_upto_region 4 with fail
  have b4 := hid ((heap_setCell_other w3 ⟨w.heap.size + 1 + 1, 3, none⟩ (w.heap.size + 1) (.slice (some ⟨g2, 0, none⟩) f.rl.length k2) (by show w.heap.size + 1 ≠ w.heap.size + 1 + 1; omega)).trans b3.out)
  have c4 := hid (show (w3.setCell ⟨w.heap.size + 1 + 1, 3, none⟩ (.slice (some ⟨g2, 0, none⟩) f.rl.length k2)).heap[w.heap.size + 1 + 1]? = some (fbk (.slice (some ⟨g1, 0, none⟩) f.poly.length k1) f.fl f.ce (.slice (some ⟨g2, 0, none⟩) f.rl.length k2)) from (Put.set 0 c3.out).at_)
  have O4 := hid (ownsRow_setCell_other O3.out (a := ⟨w.heap.size + 1 + 1, 3, none⟩) (fun e => by have : W.heap.size ≤ w.heap.size + 1 + 1 := (O3.out.lt _ e).1; have := hWsz.out; omega) (.slice (some ⟨g2, 0, none⟩) f.rl.length k2))
  have P4 := hid (ownsRow_setCell_other P3.out (a := ⟨w.heap.size + 1 + 1, 3, none⟩) (fun e => by have : w2.heap.size ≤ w.heap.size + 1 + 1 := (P3.out.lt _ e).1; have := hw2.out; omega) (.slice (some ⟨g2, 0, none⟩) f.rl.length k2))
  have B4 := hid (B3.out.setCell (p := ⟨w.heap.size + 1 + 1, 3, none⟩) (by show w.heap.size ≤ w.heap.size + 1 + 1; omega) (.slice (some ⟨g2, 0, none⟩) f.rl.length k2))
  clear t0 t1 t2 t3 f3 b3 c3 O3 P3 B3
  generalize w3.setCell ⟨w.heap.size + 1 + 1, 3, none⟩ (.slice (some ⟨g2, 0, none⟩) f.rl.length k2) = w4 at *
  obtain ⟨t0, t1, t2, t3⟩ := cells4 c4.out
  obtain ⟨y0, y1, y2, y3⟩ := cells4 b4.out
  have yf : ∀ j, w4.frozen? ⟨w.heap.size + 1, j, none⟩ = false := by simp [World.frozen?, b4.out]
  have yf0 := yf 0
  have yf1 := yf 1
  have yf2 := yf 2
  have yf3 := yf 3
  clear yf
  go_wp2_with fail
  have hz := set4 (.slice (some ⟨g1, 0, none⟩) f.poly.length k1) (.int .i64 f.fl) (.int .i64 f.ce) (.slice (some ⟨g2, 0, none⟩) f.rl.length k2) b4.out
  have hb := hid (set4_below (g := w.heap.size + 1) (.slice (some ⟨g1, 0, none⟩) f.poly.length k1) (.int .i64 f.fl) (.int .i64 f.ce) (.slice (some ⟨g2, 0, none⟩) f.rl.length k2) B4.out (by omega))
  have hWs := hWsz.out
  have hw2' := hw2.out
  have p1 := hid (own_base (own_set4 (g := w.heap.size + 1) (.slice (some ⟨g1, 0, none⟩) f.poly.length k1) (.int .i64 f.fl) (.int .i64 f.ce) (.slice (some ⟨g2, 0, none⟩) f.rl.length k2) O4.out (by omega)) (show w.heap.size ≤ W.heap.size by omega))
  have p2 := hid (own_base (own_set4 (g := w.heap.size + 1) (.slice (some ⟨g1, 0, none⟩) f.poly.length k1) (.int .i64 f.fl) (.int .i64 f.ce) (.slice (some ⟨g2, 0, none⟩) f.rl.length k2) P4.out (by omega)) (show w.heap.size ≤ w2.heap.size by omega))
  obtain ⟨m0, m1, m2, m3⟩ := cells4 hz
  clear hz
  refine bodyPost_ret (v := .agg #[.slice (some ⟨g1, 0, none⟩) f.poly.length k1, .int .i64 f.fl, .int .i64 f.ce, .slice (some ⟨g2, 0, none⟩) f.rl.length k2]) (by simp [results, Try.results16, go_sem, m0, m1, m2, m3]) rfl ?_
  exact ⟨⟨some ⟨g1, 0, none⟩, k1, some ⟨g2, 0, none⟩, k2⟩, rfl, hb.out, ⟨g1, rfl, p1.out⟩, ⟨g2, rfl, p2.out⟩⟩
end Go.Proofs.Ytigcbldbolablaa
