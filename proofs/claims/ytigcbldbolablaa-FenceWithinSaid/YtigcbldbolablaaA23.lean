/- The reader's points. -/
import Derived.Test.YtigcbldbolablaaA22
namespace Go.Proofs.Ytigcbldbolablaa
open Go.RowKit Go.Proofs.YtigcbldbolablaaW.PrintLast
set_option linter.unusedSimpArgs false

theorem info39 : ∃ i, Try.prog.info? 39 = some i ∧ i.zero = some (.agg #[.int .i64 0, .int .i64 0]) ∧ i.size = 2 ∧ i.bytes = 16 := by
  have h : (Try.prog.info? 39).map (fun i => (i.zero, i.size, i.bytes)) = some (some (.agg #[.int .i64 0, .int .i64 0]), 2, 16) := by kernel_rfl
  cases hi : Try.prog.info? 39 with
  | none => rw [hi] at h; simp at h
  | some i => rw [hi] at h; simp at h; exact ⟨i, rfl, h.1, h.2.1, h.2.2⟩
/-- Points as cells. -/
def ptC (l : List Pt) : List Value := l.flatMap fun p => [.int .i64 p.x, .int .i64 p.y]
theorem ptC_snoc (l : List Pt) (p : Pt) : ptC (l ++ [p]) = ptC l ++ [.int .i64 p.x, .int .i64 p.y] := by simp [ptC]
/-- The points that are read: n of them, unless the bytes end. -/
def ptsA : Nat → List Pt → List UInt8 → Bool → List Pt × List UInt8 × Bool
  | 0, acc, l, sh => (acc, l, sh)
  | n + 1, acc, l, sh => if sh = true then (acc, l, sh) else ptsA n (acc ++ [⟨nmV l, nmV (nmL l)⟩]) (nmL (nmL l)) (nmS (nmL l) (nmS l sh))
/-- What a reading of points leaves. -/
def RdPts (b : Nat) (r : List Pt × List UInt8 × Bool) (w : World) (e : Ending) (w' : World) : Prop :=
  ∃ v', e = .returned v' ∧ w'.ownsRow w.heap.size 39 2 v' r.1.length (ptC r.1) ∧ Put w.heap.size w w' b (rdb r.2.1 r.2.2)

theorem new_pt (w : World) (x y : Int) (t : TypeId) : ∀ (j : Nat) (u : Value), [Value.int .i64 x, .int .i64 y][j]? = some u → (w.alloc (.cells #[.int .i64 x, .int .i64 y] t)).cell? ((⟨w.heap.size, 0, none⟩ : Addr).add j) = some u := by
  intro j u hu
  rw [add_lit, Nat.zero_add, cell_new, ← hu]
  simp
theorem one_pt (x y : Int) : ∀ u ∈ [Value.int .i64 x, .int .i64 y], u.oneCell' = true := by
  intro u hu
  simp at hu
  rcases hu with rfl | rfl <;> rfl
theorem Put.grown {B : Nat} {a b c : World} {g : Nat} {o : Obj} {row : Option Nat} (h : Put B a b g o) (hg : b.grownBy c row) (hB : B ≤ b.heap.size) (hgB : g < B) (hr : ∀ k, row = some k → B ≤ k) : Put B a c g o :=
  ⟨hg.os.trans h.os, hg.tape.trans h.tape, hg.output.trans h.output, Nat.le_trans h.size hg.size,
   fun k hk hn => (hg.block k (by omega) (fun e => by have := hr k e.symm; omega)).trans (h.block k hk hn),
   (hg.block g (by omega) (fun e => by have := hr g e.symm; omega)).trans h.at_⟩
theorem own_put {W w' : World} {base e size n : Nat} {v : Value} {xs : List Value} {g : Nat} {o : Obj} (h : W.ownsRow base e size v n xs) (hp : Put W.heap.size W w' g o) (hg : g < base) : w'.ownsRow base e size v n xs := by
  refine ⟨h.1, ?_⟩
  rcases h.2 with ⟨h1, h2⟩ | ⟨k, cap, cur, h1, h2, h3, h4⟩
  · exact .inl ⟨h1, h2⟩
  · exact .inr ⟨k, cap, cur, h1, h2, (hp.block k (heap_lt h3) (by omega)).trans h3, h4⟩

set_option maxRecDepth 100000 in
set_option maxHeartbeats 4000000 in
theorem points_of (b : Nat) (w : World) (t0 : UInt8) (r l1 : List UInt8) (sh1 : Bool) (hb : b < w.heap.size) (hl1 : l1.length ≤ 140737488351232)
    (ht : Calls Try.prog 85 #[.pointer (some ⟨b, 0, none⟩), .int .i64 1] w fun e w' => e = .returned (bst (t0 :: r)) ∧ Put w.heap.size w w' b (rdb l1 sh1)) :
    Calls Try.prog 63 #[.pointer (some ⟨b, 0, none⟩)] w (RdPts b (ptsA t0.toNat [] l1 sh1) w) := by
  have HT := hid ht
  clear ht
  obtain ⟨i39, hi39, hz39, hs39, hb39⟩ := info39
  have hw : (IntKind.u8).wrap 0 = 0 := by decide
  have htl := t0.toNat_lt
  go_enter Try.func63, Try.ntmps63
  go_wp2_with fail
  refine HT.out.mono ?_
  rintro e w1 ⟨rfl, hp⟩
  have HP := hid hp
  clear hp
  have hx : (⟨(t0 :: r).toArray⟩ : ByteArray).size = r.length + 1 := by simp [ByteArray.size]
  go_wp2_with fail
  go_loopw [3, 4, 5] (fun vl vn _ wr => ∃ (k : Nat) (acc : List Pt) (l : List UInt8) (sh : Bool), vn = .int .u8 k ∧ k + acc.length ≤ 255 ∧ l.length ≤ 140737488351232 ∧ Hid (ptsA t0.toNat [] l1 sh1 = ptsA k acc l sh) ∧ Hid (wr.ownsRow w.heap.size 39 2 vl acc.length (ptC acc)) ∧ Hid (Put w.heap.size w wr b (rdb l sh))) (fun _ vn _ _ => (intOf vn).toNat)
  case atStart => exact ⟨t0.toNat, [], l1, sh1, rfl, by simp; omega, hl1, rfl, World.ownsRow_nil _ _ _ _, HP⟩
  case round =>
    obtain ⟨k, acc, l, sh, rfl, hk, hl, hch, ho, hp⟩ := hrel
    clear HP
    obtain ⟨c0, c1, _, _⟩ := rdb_cells hp.out.at_
    have hzr := hp.out.size
    by_cases hk0 : k = 0
    · subst hk0
      replace hch := hid (show ptsA t0.toNat [] l1 sh1 = (acc, l, sh) from hch.out)
      go_wp2
      go_ret
      exact ⟨_, rfl, by rw [hch.out]; exact ho.out, by rw [hch.out]; exact hp.out⟩
    · obtain ⟨n, rfl⟩ : ∃ n, k = n + 1 := ⟨k - 1, by omega⟩
      cases hsh : sh with
      | true =>
        replace hch := hid (show ptsA t0.toNat [] l1 sh1 = (acc, l, sh) by rw [hch.out, ptsA, if_pos hsh])
        rw [hsh] at c1
        replace hsh := hid hsh
        go_wp2
        go_ret
        exact ⟨_, rfl, by rw [hch.out]; exact ho.out, by rw [hch.out]; exact hp.out⟩
      | false =>
        replace hch := hid (show ptsA t0.toNat [] l1 sh1 = ptsA n (acc ++ [⟨nmV l, nmV (nmL l)⟩]) (nmL (nmL l)) (nmS (nmL l) (nmS l sh)) by rw [hch.out, ptsA, if_neg (by rw [hsh]; simp)])
        rw [hsh] at c1
        replace hsh := hid hsh
        go_wp2_with fail
        refine (number_any b l sh _ hp.out.at_ hl).mono ?_
        rintro e w2 ⟨rfl, hp2⟩
        have ho2 := hid (own_put ho.out hp2 hb)
        have hP2 := hid (hp.out.trans (hp2.mono hzr))
        have hl2 : (nmL l).length ≤ 140737488351232 := Nat.le_trans (nmL_le l) hl
        clear hp2 ho hp c0 c1
        go_wp2_with fail
        refine (number_any b (nmL l) (nmS l sh) _ hP2.out.at_ hl2).mono ?_
        rintro e w3 ⟨rfl, hp3⟩
        have ho3 := hid (own_put ho2.out hp3 hb)
        have hP3 := hid (hP2.out.trans (hp3.mono hP2.out.size))
        have hl3 : (nmL (nmL l)).length ≤ 140737488351232 := Nat.le_trans (nmL_le _) hl2
        clear hp3 ho2 hP2
        have hc1 := hid (new_pt w3 (nmV l) (nmV (nmL l)) 39)
        have hc2 := hid (one_pt (nmV l) (nmV (nmL l)))
        have hc3 : acc.length + 1 ≤ maxLen := by unfold maxLen; omega
        have hc5 : ∀ o, w.heap.size ≤ (w3.alloc o).heap.size := fun o => by have := hP3.out.size; simp; omega
        have hlen := ptC_snoc acc ⟨nmV l, nmV (nmL l)⟩
        replace hc3 := hid hc3
        replace hc5 := hid hc5
        replace hlen := hid hlen
        go_wp2_with (at_builtin; refine wpList_append_own _ rfl _ _ 22 rfl w.heap.size 39 i39 (.agg #[.int .i64 0, .int .i64 0]) 2 16 Try.underlying22 hi39 hz39 hs39 hb39 rfl (by decide) _ acc.length (ptC acc) rfl (ho3.out.alloc _) ⟨w3.heap.size, 0, none⟩ 1 1 [.int .i64 (nmV l), .int .i64 (nmV (nmL l))] rfl rfl hc1.out hc2.out hc3.out (by omega) (hc5.out _) ?_; intro v' w4 hown' hgrow4 hnil4)
        have HX := hid (show w4.ownsRow w.heap.size 39 2 v' (acc ++ [(⟨nmV l, nmV (nmL l)⟩ : Pt)]).length (ptC (acc ++ [(⟨nmV l, nmV (nmL l)⟩ : Pt)])) by rw [hlen.out, List.length_append]; exact hown')
        have HP4 := hid ((hP3.out.later ((Below.refl w.heap.size w3).alloc hP3.out.size _) hb).grown hgrow4 (hc5.out _) hb (fun k e => (ho3.out.lt k e).1))
        clear hown' hgrow4 hnil4 hc1 hc2 hc3 hc5 ho3 hP3
        go_wp2
        go_roundw
        case rel => exact ⟨n, acc ++ [(⟨nmV l, nmV (nmL l)⟩ : Pt)], nmL (nmL l), nmS (nmL l) (nmS l sh), by simp, by simp; omega, hl3, hch, HX, HP4⟩
        case measure => simp [intOf]

/-- What a reading of points leaves of bytes and a mark. -/
def rdP (l : List UInt8) (sh : Bool) : List Pt × List UInt8 × Bool :=
  match l with
  | [] => ptsA 0 [] [] true
  | a :: r => ptsA a.toNat [] r sh
theorem points_rd (b : Nat) (l : List UInt8) (sh : Bool) (w : World) (h : w.heap[b]? = some (rdb l sh)) (hs : l.length ≤ 140737488351232) :
    Calls Try.prog 63 #[.pointer (some ⟨b, 0, none⟩)] w (RdPts b (rdP l sh) w) := by
  cases l with
  | nil => exact points_of b w 0 [0, 0, 0] [] true (heap_lt h) (by simp) (take_short b 1 [] sh w h (by simp) (by omega))
  | cons a r =>
    have ht := take_some b 1 (a :: r) sh w h (by simp) (by omega) hs
    exact points_of b w a [] r sh (heap_lt h) (by simp at hs; omega) ht
end Go.Proofs.Ytigcbldbolablaa
