/- The fence of bytes: Decode. -/
import Derived.Test.YtigcbldbolablaaA23
namespace Go.Proofs.Ytigcbldbolablaa
open Go.RowKit Go.Proofs.YtigcbldbolablaaW.PrintLast
set_option linter.unusedSimpArgs false

theorem own_of {W W' : World} {base e size n : Nat} {v : Value} {xs : List Value} (h : W.ownsRow base e size v n xs) (hk : ∀ g, v.ownBlock = some g → W'.heap[g]? = W.heap[g]?) : W'.ownsRow base e size v n xs := by
  refine ⟨h.1, ?_⟩
  rcases h.2 with ⟨h1, h2⟩ | ⟨k, cap, cur, h1, h2, h3, h4⟩
  · exact .inl ⟨h1, h2⟩
  · exact .inr ⟨k, cap, cur, h1, h2, (hk k (by rw [h1]; rfl)).trans h3, h4⟩
theorem carry_b {W W' : World} {b : Nat} {o : Obj} (hb : Below W.heap.size W W') (h : W.heap[b]? = some o) : W'.heap[b]? = some o := (hb.block b (heap_lt h)).trans h
theorem carry_a {W : World} {b : Nat} {o : Obj} (o' : Obj) (h : W.heap[b]? = some o) : (W.alloc o').heap[b]? = some o := carry_b ((Below.refl _ _).alloc (Nat.le_refl _) _) h
theorem own_slice {W : World} {base e size n : Nat} {v : Value} {xs : List Value} (h : W.ownsRow base e size v n xs) : ∃ A c, v = .slice A n c := by
  rcases h.2 with ⟨h1, rfl⟩ | ⟨k, cap, cur, h1, _⟩
  · exact ⟨none, 0, h1⟩
  · exact ⟨_, _, h1⟩
theorem ptC_len (l : List Pt) : (ptC l).length = l.length * 2 := by
  unfold ptC
  induction l with
  | nil => rfl
  | cons p t ih => rw [List.flatMap_cons, List.length_append, ih]; simp; omega
theorem ptC_get (l : List Pt) (k : Nat) (h : k < l.length) : (ptC l)[k * 2]? = some (.int .i64 (npt l k).x) ∧ (ptC l)[k * 2 + 1]? = some (.int .i64 (npt l k).y) := by
  unfold ptC
  induction l generalizing k with
  | nil => simp at h
  | cons p t ih =>
    cases k with
    | zero => simp [npt]
    | succ k =>
      have := ih k (by simpa using h)
      have e1 : (k + 1) * 2 = k * 2 + 2 := by omega
      rw [e1]
      simpa [npt] using this
theorem pts_own {W : World} {base c : Nat} {A : Option Addr} {l : List Pt} (h : W.ownsRow base 39 2 (.slice A l.length c) l.length (ptC l)) : Pts W A l := by
  intro k hk
  rcases h.2 with ⟨h1, h2⟩ | ⟨g, cap, cur, h1, h2, h3, h4⟩
  · omega
  · cases h1
    obtain ⟨e1, e2⟩ := ptC_get l k hk
    refine ⟨_, rfl, heap_lt h3, ?_, ?_⟩
    · rw [add_lit, Nat.zero_add, h.cellAt _ (by omega), e1]
      rfl
    · rw [add_lit, Nat.zero_add]
      show W.cell? ⟨g, k * 2 + 1, none⟩ = _
      rw [h.cellAt _ (by omega), e2]
      rfl
theorem ptsA_len : ∀ (n : Nat) (acc : List Pt) (l : List UInt8) (sh : Bool), (ptsA n acc l sh).1.length ≤ acc.length + n
  | 0, acc, l, sh => by simp [ptsA]
  | n + 1, acc, l, sh => by
    unfold ptsA
    split
    · simp
    · have := ptsA_len n (acc ++ [(⟨nmV l, nmV (nmL l)⟩ : Pt)]) (nmL (nmL l)) (nmS (nmL l) (nmS l sh))
      simp at this
      omega
theorem ptsA_le : ∀ (n : Nat) (acc : List Pt) (l : List UInt8) (sh : Bool), (ptsA n acc l sh).2.1.length ≤ l.length
  | 0, acc, l, sh => Nat.le_refl _
  | n + 1, acc, l, sh => by
    unfold ptsA
    split
    · exact Nat.le_refl _
    · have := ptsA_le n (acc ++ [(⟨nmV l, nmV (nmL l)⟩ : Pt)]) (nmL (nmL l)) (nmS (nmL l) (nmS l sh))
      have := nmL_le l
      have := nmL_le (nmL l)
      omega
theorem rdP_len (l : List UInt8) (sh : Bool) : (rdP l sh).1.length ≤ 255 := by
  unfold rdP
  split
  · simp [ptsA]
  · rename_i a r
    have := ptsA_len a.toNat [] r sh
    have := a.toNat_lt
    simp at *
    omega
theorem rdP_le (l : List UInt8) (sh : Bool) : (rdP l sh).2.1.length ≤ l.length := by
  unfold rdP
  split
  · simp [ptsA]
  · rename_i a r
    have := ptsA_le a.toNat [] r sh
    simp
    omega

/-- A fence in memory. -/
abbrev fbk (v : Value) (x y : Int) (u : Value) : Obj := .cells #[v, .int .i64 x, .int .i64 y, u] 24 (0, 0)

/-- What bytes are read as: a fence, and whether that is amiss. -/
def dF (l : List UInt8) : Fn := ⟨(rdP l false).1, nmV (rdP l false).2.1, nmV (nmL (rdP l false).2.1), (rdP (nmL (nmL (rdP l false).2.1)) (nmS (nmL (rdP l false).2.1) (nmS (rdP l false).2.1 (rdP l false).2.2))).1⟩
def dR (l : List UInt8) : List UInt8 × Bool := (rdP (nmL (nmL (rdP l false).2.1)) (nmS (nmL (rdP l false).2.1) (nmS (rdP l false).2.1 (rdP l false).2.2))).2
def dE (l : List UInt8) : Int := if (dR l).2 = true then 3 else if (dR l).1 ≠ [] then 3 else chk (dF l)
def f0 : Fn := ⟨[], 0, 0, []⟩
def dV (l : List UInt8) : Fn := if dE l = 0 then dF l else f0
/-- A fence of the call's own: its lists are rows of its own, apart from each other. -/
structure FOwn (base : Nat) (w : World) (P : FP) (f : Fn) : Prop where
  poly : w.ownsRow base 39 2 (.slice P.A f.poly.length P.c) f.poly.length (ptC f.poly)
  rl : w.ownsRow base 39 2 (.slice P.B f.rl.length P.d) f.rl.length (ptC f.rl)
  apart : ∀ g, (Value.slice P.A f.poly.length P.c).ownBlock = some g → (Value.slice P.B f.rl.length P.d).ownBlock ≠ some g
/-- What a reading of a fence leaves. -/
def FGot (f : Fn) (E : Int) (w : World) (e : Ending) (w' : World) : Prop :=
  ∃ P : FP, e = .returned (.tuple #[.agg #[.slice P.A f.poly.length P.c, .int .i64 f.fl, .int .i64 f.ce, .slice P.B f.rl.length P.d], .int .i64 E]) ∧ Below w.heap.size w w' ∧ FOwn w.heap.size w' P f

theorem set4 {w : World} {g : Nat} {a b c d : Value} {t : TypeId} (x y z u : Value) (h : w.heap[g]? = some (.cells #[a, b, c, d] t (0, 0))) :
    ((((w.setCell ⟨g, 0, none⟩ x).setCell ⟨g, 1, none⟩ y).setCell ⟨g, 2, none⟩ z).setCell ⟨g, 3, none⟩ u).heap[g]? = some (.cells #[x, y, z, u] t (0, 0)) :=
  (Put.set 0 (Put.set 0 (Put.set 0 (Put.set 0 h).at_).at_).at_).at_
theorem set4_below {B : Nat} {w W : World} {g : Nat} (x y z u : Value) (h : Below B w W) (hg : B ≤ g) : Below B w ((((W.setCell ⟨g, 0, none⟩ x).setCell ⟨g, 1, none⟩ y).setCell ⟨g, 2, none⟩ z).setCell ⟨g, 3, none⟩ u) :=
  (((h.setCell (p := ⟨g, 0, none⟩) hg _).setCell (p := ⟨g, 1, none⟩) hg _).setCell (p := ⟨g, 2, none⟩) hg _).setCell (p := ⟨g, 3, none⟩) hg _
theorem cells4 {w : World} {g : Nat} {a b c d : Value} {t : TypeId} (h : w.heap[g]? = some (.cells #[a, b, c, d] t (0, 0))) : w.cell? ⟨g, 0, none⟩ = some a ∧ w.cell? ⟨g, 1, none⟩ = some b ∧ w.cell? ⟨g, 2, none⟩ = some c ∧ w.cell? ⟨g, 3, none⟩ = some d := by
  simp [World.cell?, h]
theorem got_none (E : Int) (w w' : World) (hb : Below w.heap.size w w') : FGot f0 E w (.returned (.tuple #[.agg #[.slice none 0 0, .int .i64 0, .int .i64 0, .slice none 0 0], .int .i64 E])) w' :=
  ⟨⟨none, 0, none, 0⟩, rfl, hb, World.ownsRow_nil _ _ _ _, World.ownsRow_nil _ _ _ _, fun g e => by cases e⟩

theorem own_base {W : World} {base base' e size n : Nat} {v : Value} {xs : List Value} (h : W.ownsRow base e size v n xs) (hb : base' ≤ base) : W.ownsRow base' e size v n xs := by
  refine ⟨h.1, ?_⟩
  rcases h.2 with h1 | ⟨k, cap, cur, h1, h2, h3⟩
  · exact .inl h1
  · exact .inr ⟨k, cap, cur, h1, by omega, h3⟩
theorem own_below {W W' : World} {base e size n : Nat} {v : Value} {xs : List Value} (h : W.ownsRow base e size v n xs) (hb : Below W.heap.size W W') : W'.ownsRow base e size v n xs :=
  own_of h (fun g e => hb.block g (h.lt g e).2)
theorem own_set4 {W : World} {base e size n g : Nat} {v : Value} {xs : List Value} (x y z u : Value) (h : W.ownsRow base e size v n xs) (hg : g < base) : ((((W.setCell ⟨g, 0, none⟩ x).setCell ⟨g, 1, none⟩ y).setCell ⟨g, 2, none⟩ z).setCell ⟨g, 3, none⟩ u).ownsRow base e size v n xs := by
  have hne : ∀ i, v.ownBlock ≠ some (⟨g, i, none⟩ : Addr).block := fun i e => by have : base ≤ g := (h.lt _ e).1; omega
  exact ownsRow_setCell_other (ownsRow_setCell_other (ownsRow_setCell_other (ownsRow_setCell_other h (hne 0) _) (hne 1) _) (hne 2) _) (hne 3) _

set_option maxRecDepth 100000 in
set_option maxHeartbeats 4000000 in
theorem decode_any (l : List UInt8) (w : World) (hl : l.length ≤ 140737488351232) :
    Calls Try.prog 29 #[bst l] w (FGot (dV l) (dE l) w) := by
  go_enter Try.func29, Try.ntmps29
  go_wp2_with fail
  obtain ⟨W1, hW1⟩ : ∃ W1, W1 = (w.alloc (fbk (.slice none 0 0) 0 0 (.slice none 0 0))).alloc (rdb l false) := ⟨_, rfl⟩
  have z1 : W1.heap[w.heap.size]? = some (fbk (.slice none 0 0) 0 0 (.slice none 0 0)) := by rw [hW1]; exact carry_a _ (heap_alloc_new w _)
  have r1 : W1.heap[w.heap.size + 1]? = some (rdb l false) := by rw [hW1]; have := heap_alloc_new (w.alloc (fbk (.slice none 0 0) 0 0 (.slice none 0 0))) (rdb l false); simpa using this
  have B1 : Below w.heap.size w W1 := by rw [hW1]; go_grown
  have s1 : W1.heap.size = w.heap.size + 2 := by rw [hW1]; simp
  rw [← hW1]
  clear hW1
  refine (points_rd (w.heap.size + 1) l false W1 r1 hl).mono ?_
  rintro e w2 ⟨v1, rfl, o1, p2⟩
  have hlen1 := rdP_le l false
  have hF : dF l = ⟨(rdP l false).1, nmV (rdP l false).2.1, nmV (nmL (rdP l false).2.1), (rdP (nmL (nmL (rdP l false).2.1)) (nmS (nmL (rdP l false).2.1) (nmS (rdP l false).2.1 (rdP l false).2.2))).1⟩ := rfl
  have hR : dR l = (rdP (nmL (nmL (rdP l false).2.1)) (nmS (nmL (rdP l false).2.1) (nmS (rdP l false).2.1 (rdP l false).2.2))).2 := rfl
  replace hF := hid hF
  replace hR := hid hR
  obtain ⟨A1, c1, rfl⟩ := own_slice o1
  generalize hq1 : rdP l false = q1 at *
  replace hq1 := hid hq1
  have z2 := (p2.block _ (by omega) (by omega)).trans z1
  have B2 := hid (B1.trans ((p2.mono (by omega)).below (by omega)))
  have g5 := p2.size
  have r2 := p2.at_
  clear z1 r1 B1 p2
  have z3 : (w2.alloc (fbk (.slice A1 q1.1.length c1) 0 0 (.slice none 0 0))).heap[w.heap.size]? = _ := carry_a _ z2
  have r3 : (w2.alloc (fbk (.slice A1 q1.1.length c1) 0 0 (.slice none 0 0))).heap[w.heap.size + 1]? = _ := carry_a _ r2
  have f3 := heap_alloc_new w2 (fbk (.slice A1 q1.1.length c1) 0 0 (.slice none 0 0))
  have o3 := hid (o1.alloc (fbk (.slice A1 q1.1.length c1) 0 0 (.slice none 0 0)))
  have n1 := hid (fun k e => (o1.lt k e).2)
  have B3 := hid (B2.out.alloc B2.out.size (fbk (.slice A1 q1.1.length c1) 0 0 (.slice none 0 0)))
  have s3 : (w2.alloc (fbk (.slice A1 q1.1.length c1) 0 0 (.slice none 0 0))).heap.size = w2.heap.size + 1 := by simp
  replace z3 := hid z3
  replace r3 := hid r3
  replace f3 := hid f3
  replace s3 := hid s3
  clear o1 B2 z2 r2
  go_wp2_with fail
  generalize w2.alloc (fbk (.slice A1 q1.1.length c1) 0 0 (.slice none 0 0)) = W3 at *
  refine (number_any (w.heap.size + 1) q1.2.1 q1.2.2 W3 r3.out (by omega)).mono ?_
  rintro e w4 ⟨rfl, p4⟩
  generalize w2.heap.size = G at *
  have hs3 := s3.out
  have z4 := hid ((p4.block _ (by omega) (by omega)).trans z3.out)
  have f4 := hid ((p4.block _ (by omega) (by omega)).trans f3.out)
  have o4 := hid (own_put o3.out p4 (by omega))
  have B4 := hid (B3.out.trans ((p4.mono (by omega)).below (by omega)))
  have r4 := hid p4.at_
  have g4 := p4.size
  clear p4 z3 r3 f3 o3 B3
  obtain ⟨t0, t1, t2, t3⟩ : w4.cell? ⟨G, 1, none⟩ = some (.int .i64 0) ∧ w4.cell? ⟨G, 2, none⟩ = some (.int .i64 0) ∧ w4.frozen? ⟨G, 1, none⟩ = false ∧ w4.frozen? ⟨G, 2, none⟩ = false := by simp [World.cell?, World.frozen?, f4.out]
  go_wp2_with fail
  have z5 := hid ((heap_setCell_other w4 ⟨G, 1, none⟩ w.heap.size (.int .i64 (nmV q1.2.1)) (by show w.heap.size ≠ G; omega)).trans z4.out)
  have r5 := hid ((heap_setCell_other w4 ⟨G, 1, none⟩ (w.heap.size + 1) (.int .i64 (nmV q1.2.1)) (by show w.heap.size + 1 ≠ G; omega)).trans r4.out)
  have f5 := hid (show (w4.setCell ⟨G, 1, none⟩ (.int .i64 (nmV q1.2.1))).heap[G]? = some (fbk (.slice A1 q1.1.length c1) (nmV q1.2.1) 0 (.slice none 0 0)) from (Put.set 0 f4.out).at_)
  have o5 := hid (ownsRow_setCell_other o4.out (a := ⟨G, 1, none⟩) (fun e => by have := n1.out _ e; exact Nat.lt_irrefl _ this) (.int .i64 (nmV q1.2.1)))
  have B5 := hid (B4.out.setCell (p := ⟨G, 1, none⟩) (by show w.heap.size ≤ G; omega) (.int .i64 (nmV q1.2.1)))
  have s5 := hid (show (w4.setCell ⟨G, 1, none⟩ (.int .i64 (nmV q1.2.1))).heap.size = w4.heap.size by simp)
  clear t0 t1 t2 t3 z4 r4 f4 o4 B4
  generalize w4.setCell ⟨G, 1, none⟩ (.int .i64 (nmV q1.2.1)) = W5 at *
  have hle2 := nmL_le q1.2.1
  refine (number_any (w.heap.size + 1) (nmL q1.2.1) (nmS q1.2.1 q1.2.2) W5 r5.out (by omega)).mono ?_
  rintro e w6 ⟨rfl, p6⟩
  have hs5 := s5.out
  have z6 := hid ((p6.block _ (by omega) (by omega)).trans z5.out)
  have f6 := hid ((p6.block _ (by omega) (by omega)).trans f5.out)
  have o6 := hid (own_put o5.out p6 (by omega))
  have B6 := hid (B5.out.trans ((p6.mono (by omega)).below (by omega)))
  have r6 := hid p6.at_
  have g6 := p6.size
  clear p6 z5 r5 f5 o5 B5
  obtain ⟨t0, t1⟩ : w6.cell? ⟨G, 2, none⟩ = some (.int .i64 0) ∧ w6.frozen? ⟨G, 2, none⟩ = false := by simp [World.cell?, World.frozen?, f6.out]
  go_wp2_with fail
  have z7 := hid ((heap_setCell_other w6 ⟨G, 2, none⟩ w.heap.size (.int .i64 (nmV (nmL q1.2.1))) (by show w.heap.size ≠ G; omega)).trans z6.out)
  have r7 := hid ((heap_setCell_other w6 ⟨G, 2, none⟩ (w.heap.size + 1) (.int .i64 (nmV (nmL q1.2.1))) (by show w.heap.size + 1 ≠ G; omega)).trans r6.out)
  have f7 := hid (show (w6.setCell ⟨G, 2, none⟩ (.int .i64 (nmV (nmL q1.2.1)))).heap[G]? = some (fbk (.slice A1 q1.1.length c1) (nmV q1.2.1) (nmV (nmL q1.2.1)) (.slice none 0 0)) from (Put.set 0 f6.out).at_)
  have o7 := hid (ownsRow_setCell_other o6.out (a := ⟨G, 2, none⟩) (fun e => by have := n1.out _ e; exact Nat.lt_irrefl _ this) (.int .i64 (nmV (nmL q1.2.1))))
  have B7 := hid (B6.out.setCell (p := ⟨G, 2, none⟩) (by show w.heap.size ≤ G; omega) (.int .i64 (nmV (nmL q1.2.1))))
  have s7 := hid (show (w6.setCell ⟨G, 2, none⟩ (.int .i64 (nmV (nmL q1.2.1)))).heap.size = w6.heap.size by simp)
  clear t0 t1 z6 r6 f6 o6 B6
  generalize w6.setCell ⟨G, 2, none⟩ (.int .i64 (nmV (nmL q1.2.1))) = W7 at *
  have hle3 := nmL_le (nmL q1.2.1)
  have hs7 := s7.out
  refine (points_rd (w.heap.size + 1) (nmL (nmL q1.2.1)) (nmS (nmL q1.2.1) (nmS q1.2.1 q1.2.2)) W7 r7.out (by omega)).mono ?_
  rintro e w8 ⟨v2, rfl, o8, p8⟩
  obtain ⟨A2, c2, rfl⟩ := own_slice o8
  generalize hq2 : rdP (nmL (nmL q1.2.1)) (nmS (nmL q1.2.1) (nmS q1.2.1 q1.2.2)) = q2 at *
  replace hq2 := hid hq2
  have z8 := hid ((p8.block _ (by omega) (by omega)).trans z7.out)
  have f8 := hid ((p8.block _ (by omega) (by omega)).trans f7.out)
  have o8a := hid (own_put o7.out p8 (by omega))
  have n2 := hid (fun k e => (o8.lt k e).1)
  have O8 := hid o8
  have B8 := hid (B7.out.trans ((p8.mono (by omega)).below (by omega)))
  have r8 := hid p8.at_
  have g8 := p8.size
  clear p8 z7 r7 f7 o7 B7 o8
  obtain ⟨t0, t1⟩ : w8.cell? ⟨G, 3, none⟩ = some (.slice none 0 0) ∧ w8.frozen? ⟨G, 3, none⟩ = false := by simp [World.cell?, World.frozen?, f8.out]
  go_upto_region 6 with fail
  have z9 := hid ((heap_setCell_other w8 ⟨G, 3, none⟩ w.heap.size (.slice A2 q2.1.length c2) (by show w.heap.size ≠ G; omega)).trans z8.out)
  have r9 := hid ((heap_setCell_other w8 ⟨G, 3, none⟩ (w.heap.size + 1) (.slice A2 q2.1.length c2) (by show w.heap.size + 1 ≠ G; omega)).trans r8.out)
  have f9 := hid (show (w8.setCell ⟨G, 3, none⟩ (.slice A2 q2.1.length c2)).heap[G]? = some (fbk (.slice A1 q1.1.length c1) (nmV q1.2.1) (nmV (nmL q1.2.1)) (.slice A2 q2.1.length c2)) from (Put.set 0 f8.out).at_)
  have o9 := hid (ownsRow_setCell_other o8a.out (a := ⟨G, 3, none⟩) (fun e => by have := n1.out _ e; exact Nat.lt_irrefl _ this) (.slice A2 q2.1.length c2))
  have O9 := hid (ownsRow_setCell_other O8.out (a := ⟨G, 3, none⟩) (fun e => by have : _ ≤ G := n2.out _ e; omega) (.slice A2 q2.1.length c2))
  have B9 := hid (B8.out.setCell (p := ⟨G, 3, none⟩) (by show w.heap.size ≤ G; omega) (.slice A2 q2.1.length c2))
  have s9 := hid (show (w8.setCell ⟨G, 3, none⟩ (.slice A2 q2.1.length c2)).heap.size = w8.heap.size by simp)
  have hap := hid (show ∀ k, (Value.slice A1 q1.1.length c1).ownBlock = some k → (Value.slice A2 q2.1.length c2).ownBlock ≠ some k from fun k e1 e2 => by have := n1.out _ e1; have := n2.out _ e2; omega)
  clear t0 t1 z8 r8 f8 o8a O8 B8
  generalize w8.setCell ⟨G, 3, none⟩ (.slice A2 q2.1.length c2) = W9 at *
  obtain ⟨b0, b1, _, _⟩ := rdb_cells r9.out
  obtain ⟨k0, k1, k2, k3⟩ : W9.cell? ⟨G, 0, none⟩ = some (.slice A1 q1.1.length c1) ∧ W9.cell? ⟨G, 1, none⟩ = some (.int .i64 (nmV q1.2.1)) ∧ W9.cell? ⟨G, 2, none⟩ = some (.int .i64 (nmV (nmL q1.2.1))) ∧ W9.cell? ⟨G, 3, none⟩ = some (.slice A2 q2.1.length c2) := by simp [World.cell?, f9.out]
  obtain ⟨y0, y1, y2, y3, yf⟩ : W9.cell? ⟨w.heap.size, 0, none⟩ = some (.slice none 0 0) ∧ W9.cell? ⟨w.heap.size, 1, none⟩ = some (.int .i64 0) ∧ W9.cell? ⟨w.heap.size, 2, none⟩ = some (.int .i64 0) ∧ W9.cell? ⟨w.heap.size, 3, none⟩ = some (.slice none 0 0) ∧ ∀ j, W9.frozen? ⟨w.heap.size, j, none⟩ = false := by simp [World.cell?, World.frozen?, z9.out]
  have yf0 := yf 0
  have yf1 := yf 1
  have yf2 := yf 2
  have yf3 := yf 3
  clear yf
  replace hF := hid (show dF l = ⟨q1.1, nmV q1.2.1, nmV (nmL q1.2.1), q2.1⟩ from hF.out)
  replace hR := hid (show dR l = q2.2 from hR.out)
  cases hsh : q2.2.2 with
  | true =>
    rw [hsh] at b1
    have hE := hid (show dE l = 3 by unfold dE; rw [hR.out, if_pos hsh])
    replace hsh := hid hsh
    go_wp2_with fail
    have hz := set4 (.slice none 0 0) (.int .i64 0) (.int .i64 0) (.slice none 0 0) z9.out
    have hb := hid (set4_below (.slice none 0 0) (.int .i64 0) (.int .i64 0) (.slice none 0 0) B9.out (Nat.le_refl _))
    obtain ⟨m0, m1, m2, m3⟩ := cells4 hz
    have hv := hid (show dV l = f0 by unfold dV; rw [hE.out]; rfl)
    clear hz
    refine bodyPost_ret (v := .tuple #[.agg #[.slice none 0 0, .int .i64 0, .int .i64 0, .slice none 0 0], .int .i64 3]) (by simp [results, Try.f29, go_sem, m0, m1, m2, m3]) rfl ?_
    rw [hv.out, hE.out]
    exact got_none 3 w _ hb.out
  | false =>
    rw [hsh] at b1
    cases hem : q2.2.1.isEmpty with
    | false =>
      have hE := hid (show dE l = 3 by unfold dE; rw [hR.out, if_neg (by rw [hsh]; simp), if_pos (by intro h; rw [h] at hem; simp at hem)])
      replace hsh := hid hsh
      go_wp2_with fail
      have hz := set4 (.slice none 0 0) (.int .i64 0) (.int .i64 0) (.slice none 0 0) z9.out
      have hb := hid (set4_below (.slice none 0 0) (.int .i64 0) (.int .i64 0) (.slice none 0 0) B9.out (Nat.le_refl _))
      obtain ⟨m0, m1, m2, m3⟩ := cells4 hz
      have hv := hid (show dV l = f0 by unfold dV; rw [hE.out]; rfl)
      clear hz
      refine bodyPost_ret (v := .tuple #[.agg #[.slice none 0 0, .int .i64 0, .int .i64 0, .slice none 0 0], .int .i64 3]) (by simp [results, Try.f29, go_sem, m0, m1, m2, m3]) rfl ?_
      rw [hv.out, hE.out]
      exact got_none 3 w _ hb.out
    | true =>
      have hE := hid (show dE l = chk (dF l) by unfold dE; rw [hR.out, if_neg (by rw [hsh]; simp), if_neg (by simpa using hem)])
      have hFR := hid (show FRd W9 ⟨A1, c1, A2, c2⟩ ⟨q1.1, nmV q1.2.1, nmV (nmL q1.2.1), q2.1⟩ from ⟨pts_own o9.out, pts_own O9.out, by have := rdP_len l false; rw [hq1.out] at this; show q1.1.length ≤ _; omega, by have := rdP_len (nmL (nmL q1.2.1)) (nmS (nmL q1.2.1) (nmS q1.2.1 q1.2.2)); rw [hq2.out] at this; show q2.1.length ≤ _; omega⟩)
      replace hsh := hid hsh
      go_wp2_with fail
      refine (check_any ⟨A1, c1, A2, c2⟩ ⟨q1.1, nmV q1.2.1, nmV (nmL q1.2.1), q2.1⟩ W9 hFR.out).mono ?_
      rintro e w10 ⟨rfl, hb10⟩
      rw [← hF.out]
      have z10 := hid (carry_b hb10 z9.out)
      have B10 := hid (below_then B9.out B9.out.size hb10)
      have o10 := hid (own_below o9.out hb10)
      have O10 := hid (own_below O9.out hb10)
      obtain ⟨k0', k1', k2', k3'⟩ := cells4 (carry_b hb10 f9.out)
      obtain ⟨y0', y1', y2', y3', yf⟩ : w10.cell? ⟨w.heap.size, 0, none⟩ = some (.slice none 0 0) ∧ w10.cell? ⟨w.heap.size, 1, none⟩ = some (.int .i64 0) ∧ w10.cell? ⟨w.heap.size, 2, none⟩ = some (.int .i64 0) ∧ w10.cell? ⟨w.heap.size, 3, none⟩ = some (.slice none 0 0) ∧ ∀ j, w10.frozen? ⟨w.heap.size, j, none⟩ = false := by simp [World.cell?, World.frozen?, z10.out]
      have yf0' := yf 0
      have yf1' := yf 1
      have yf2' := yf 2
      have yf3' := yf 3
      clear yf b0 b1 k0 k1 k2 k3 y0 y1 y2 y3 yf0 yf1 yf2 yf3 hb10
      by_cases hc : chk (dF l) = 0
      · have hcb : (chk (dF l) != 0) = false := by simp [hc]
        have hv := hid (show dV l = ⟨q1.1, nmV q1.2.1, nmV (nmL q1.2.1), q2.1⟩ by unfold dV; rw [hE.out, if_pos hc, hF.out])
        replace hE := hid (show dE l = 0 by rw [hE.out, hc])
        replace hc := hid hc
        go_wp2_with fail
        have hz := set4 (.slice A1 q1.1.length c1) (.int .i64 (nmV q1.2.1)) (.int .i64 (nmV (nmL q1.2.1))) (.slice A2 q2.1.length c2) z10.out
        have hb := hid (set4_below (.slice A1 q1.1.length c1) (.int .i64 (nmV q1.2.1)) (.int .i64 (nmV (nmL q1.2.1))) (.slice A2 q2.1.length c2) B10.out (Nat.le_refl _))
        have p1 := hid (own_base (own_set4 (g := w.heap.size) (.slice A1 q1.1.length c1) (.int .i64 (nmV q1.2.1)) (.int .i64 (nmV (nmL q1.2.1))) (.slice A2 q2.1.length c2) o10.out (by omega)) (show w.heap.size ≤ W1.heap.size by omega))
        have p2 := hid (own_base (own_set4 (g := w.heap.size) (.slice A1 q1.1.length c1) (.int .i64 (nmV q1.2.1)) (.int .i64 (nmV (nmL q1.2.1))) (.slice A2 q2.1.length c2) O10.out (by omega)) (show w.heap.size ≤ W7.heap.size by omega))
        obtain ⟨m0, m1, m2, m3⟩ := cells4 hz
        clear hz
        refine bodyPost_ret (v := .tuple #[.agg #[.slice A1 q1.1.length c1, .int .i64 (nmV q1.2.1), .int .i64 (nmV (nmL q1.2.1)), .slice A2 q2.1.length c2], .int .i64 0]) (by simp [results, Try.f29, go_sem, m0, m1, m2, m3]) rfl ?_
        rw [hv.out, hE.out]
        exact ⟨⟨A1, c1, A2, c2⟩, rfl, hb.out, p1.out, p2.out, hap.out⟩
      · have hcb : (chk (dF l) != 0) = true := by simp [hc]
        have hv := hid (show dV l = f0 by unfold dV; rw [hE.out, if_neg hc])
        replace hc := hid hc
        go_wp2_with fail
        have hz := set4 (.slice none 0 0) (.int .i64 0) (.int .i64 0) (.slice none 0 0) z10.out
        have hb := hid (set4_below (.slice none 0 0) (.int .i64 0) (.int .i64 0) (.slice none 0 0) B10.out (Nat.le_refl _))
        obtain ⟨m0, m1, m2, m3⟩ := cells4 hz
        clear hz
        refine bodyPost_ret (v := .tuple #[.agg #[.slice none 0 0, .int .i64 0, .int .i64 0, .slice none 0 0], .int .i64 (chk (dF l))]) (by simp [results, Try.f29, go_sem, m0, m1, m2, m3]) rfl ?_
        rw [hv.out, hE.out]
        exact got_none _ w _ hb.out
end Go.Proofs.Ytigcbldbolablaa
