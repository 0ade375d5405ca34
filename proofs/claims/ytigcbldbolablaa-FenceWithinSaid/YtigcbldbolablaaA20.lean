/- A fence's bytes: points. -/
import Derived.Test.YtigcbldbolablaaA19
import Derived.Test.YtigcbldbolablaaWLast
namespace Go.Proofs.Ytigcbldbolablaa
open Go.RowKit Go.Proofs.YtigcbldbolablaaW.PrintLast
set_option linter.unusedSimpArgs false

/-- A point's eight bytes; a list's. -/
def pb (p : Pt) : List Int := fb p.x ++ fb p.y
def ptB (l : List Pt) : List Int := l.flatMap pb
theorem ptB_succ {l : List Pt} {k : Nat} (h : k < l.length) : ptB (l.take (k + 1)) = ptB (l.take k) ++ (fb (npt l k).x ++ fb (npt l k).y) := by
  unfold ptB
  rw [List.take_succ_eq_append_getElem h, List.flatMap_append]
  simp [pb, npt, List.getD_eq_getElem?_getD, h]
def ptsB (l : List Pt) : List Int := (l.length : Int) :: ptB l
/-- Bytes that were laid behind others. -/
def LaidB (base : Nat) (m : Nat) (xs : List Int) (w : World) (e : Ending) (w' : World) : Prop :=
  ∃ v', e = .returned v' ∧ w'.ownsRow base 5 1 v' m (xs.map b8) ∧ Below base w w'
theorem below_grown {B : Nat} {a b c : World} {row : Option Nat} (h : Below B a b) (hB : B ≤ b.heap.size) (hg : b.grownBy c row) (hr : ∀ k, row = some k → B ≤ k) : Below B a c :=
  ⟨hg.os.trans h.os, hg.tape.trans h.tape, hg.output.trans h.output, Nat.le_trans h.size hg.size, fun k hk => (hg.block k (by omega) (fun e => by have := hr k e.symm; omega)).trans (h.block k hk)⟩
theorem own_ext {w : World} {base m m' : Nat} {v : Value} {xs ys : List Int} (h : w.ownsRow base 5 1 v m (xs.map b8)) (hm : m = m') (e : xs = ys) : w.ownsRow base 5 1 v m' (ys.map b8) := by
  subst hm
  subst e
  exact h

set_option maxRecDepth 100000 in
set_option maxHeartbeats 4000000 in
theorem points_any (base m : Nat) (v : Value) (xs : List Int) (A : Option Addr) (c : Nat) (l : List Pt) (w : World) (hown : w.ownsRow base 5 1 v m (xs.map b8)) (hm : m ≤ 2000) (hbase : base ≤ w.heap.size)
    (hp : Pts w A l) (hA : 0 < l.length → ∀ ad, A = some ad → ad.block < base) (hl : l.length ≤ 64) :
    Calls Try.prog 59 #[v, .slice A l.length c] w (LaidB base (m + 1 + 8 * l.length) (xs ++ ptsB l) w) := by
  have HO := hid hown
  have HP := hid hp
  have HA := hid hA
  clear hown hp hA
  obtain ⟨i5, hi5, hz5, hs5, hb5⟩ := info5
  have hc1 : ∀ (j : Nat) (u : Value), [b8 (l.length : Int)][j]? = some u → (w.alloc (.cells #[.int .u8 (l.length : Int)] 5)).cell? ((⟨w.heap.size, 0, none⟩ : Addr).add j) = some u := by
    intro j u hu
    rw [add_lit, Nat.zero_add, cell_new, ← hu]
    simp
  have hc2 : ∀ u ∈ [b8 (l.length : Int)], u.oneCell' = true := by
    intro u hu
    simp at hu
    subst hu
    rfl
  replace hc1 := hid hc1
  replace hc2 := hid hc2
  have hc3 : m + 1 ≤ maxLen := by unfold maxLen; omega
  have hc5 : ∀ o, base ≤ (w.alloc o).heap.size := fun o => by simp; omega
  replace hc3 := hid hc3
  replace hc5 := hid hc5
  go_enter Try.func59, Try.ntmps59
  go_wp2_with (at_builtin; refine wpList_append_own _ rfl _ _ 82 rfl base 5 i5 (.int .u8 0) 1 1 Try.underlying82 hi5 hz5 hs5 hb5 rfl (by decide) v m (xs.map b8) rfl (HO.out.alloc _) ⟨w.heap.size, 0, none⟩ 1 1 [b8 (l.length : Int)] rfl rfl hc1.out hc2.out hc3.out (by omega) (hc5.out _) ?_; intro v' w3 hown' hgrow3 hnil3)
  have HX := hid (own_ext (m' := m + 1 + 8 * 0) (ys := xs ++ (l.length : Int) :: ptB (l.take 0)) (show w3.ownsRow base 5 1 v' (m + 1) ((xs ++ [(l.length : Int)]).map b8) by rw [List.map_append]; exact hown') (by omega) (by simp [ptB]))
  have HB := hid (below_grown ((Below.refl base w).alloc hbase _) (by simp; omega) hgrow3 (fun j e => (HO.out.lt j e).1))
  clear hown' hgrow3 hnil3 hc1 hc2 hc3 hc5 hi5 hz5 hs5 hb5
  go_wp2_with fail
  go_loopw [0, 6, 15] (fun v0 _ i wr => ∃ k : Nat, k ≤ l.length ∧ i = .int .i64 k ∧ Hid (wr.ownsRow base 5 1 v0 (m + 1 + 8 * k) ((xs ++ (l.length : Int) :: ptB (l.take k)).map b8)) ∧ Hid (Below base w wr)) (fun _ _ i _ => l.length - (intOf i).toNat)
  case atStart => exact ⟨0, Nat.zero_le _, rfl, HX, HB⟩
  case round =>
    obtain ⟨k, hk, rfl, ho, hb⟩ := hrel
    clear HX HB
    have hbr := hb.out.size
    by_cases hlt : k < l.length
    · obtain ⟨ad, rfl, hab⟩ := HP.out.some_ (by omega)
      have hpr := HP.out.keep hb.out (HA.out (by omega) ad rfl)
      obtain ⟨c0, c1⟩ := hpr.nat k hlt
      have hsz : ad.block < wr.heap.size := by have := HA.out (by omega) ad rfl; omega
      go_wp2_with fail
      have hne : some wr.heap.size ≠ u0.ownBlock := fun e => by have := (ho.out.lt _ e.symm).2; omega
      have hoW := hid (ho.out.alloc (.cells #[.int .i64 (npt l k).x, .int .i64 (npt l k).y] 39))
      have hbW := hid (hb.out.alloc (by omega) (.cells #[.int .i64 (npt l k).x, .int .i64 (npt l k).y] 39))
      have q0 : (wr.alloc (.cells #[.int .i64 (npt l k).x, .int .i64 (npt l k).y] 39)).cell? ⟨wr.heap.size, 0, none⟩ = some (.int .i64 (npt l k).x) := cell_new wr _ 39 0
      have q1 : (wr.alloc (.cells #[.int .i64 (npt l k).x, .int .i64 (npt l k).y] 39)).cell? ⟨wr.heap.size, 1, none⟩ = some (.int .i64 (npt l k).y) := cell_new wr _ 39 1
      have hzW : wr.heap.size < (wr.alloc (.cells #[.int .i64 (npt l k).x, .int .i64 (npt l k).y] 39)).heap.size := by simp
      have HT := hid (ptB_succ hlt)
      generalize wr.alloc (.cells #[.int .i64 (npt l k).x, .int .i64 (npt l k).y] 39) = W at *
      clear ho hb hpr c0 c1
      have hQ : W.drew.cell? ⟨wr.heap.size, 0, none⟩ = some (.int .i64 (npt l k).x) ∧ W.drew.cell? ⟨wr.heap.size, 1, none⟩ = some (.int .i64 (npt l k).y) := ⟨q0, q1⟩
      replace hQ := hid hQ
      clear q0 q1
      generalize npt l k = pk at *
      refine start_ (n := 8) (S := (fun w' => w'.cell? ⟨wr.heap.size, 0, none⟩ = some (.int .i64 pk.x) ∧ w'.cell? ⟨wr.heap.size, 1, none⟩ = some (.int .i64 pk.y))) (ds := [6]) #[false, false, false, false, false, false, false, false] (by kernel_rfl) rfl rfl hQ.out (fun hHeld => ?_)
      refine pure_ (i := 0) (N := some 19) (v := ?_) (a' := ?_) #[true, false, false, false, false, false, false, false] rfl rfl (by kernel_rfl) (fun _ _ _ h => h) (Or.inl ⟨by rfl, ?_⟩) ?_ ?_
      rotate_left
      · intro w'
        go_simp
        with_reducible rfl
      rotate_left
      · simp only [Act.put, List.setIfInBounds_toArray, List.set_cons_zero, List.set_cons_succ]
        rfl
      refine pure_ (i := 1) (N := some 20) (v := ?_) (a' := ?_) #[true, true, false, false, false, false, false, false] rfl rfl (by kernel_rfl) (fun _ _ _ h => h) (Or.inl ⟨by rfl, ?_⟩) ?_ ?_
      rotate_left
      · intro w'
        go_simp
        with_reducible rfl
      rotate_left
      · simp only [Act.put, List.setIfInBounds_toArray, List.set_cons_zero, List.set_cons_succ]
        rfl
      refine take_ (i := 2) (N := some 21) (v := ?_) (a' := ?_) #[true, true, true, false, false, false, false, false] rfl rfl (by kernel_rfl) (fun _ _ _ h => h) (Or.inl ⟨by rfl, ?_⟩) hHeld ?_ ?_
      rotate_left
      · intro w' hS'
        obtain ⟨s0, s1⟩ := hS'
        go_simp
        with_reducible rfl
      rotate_left
      · simp only [Act.put, List.setIfInBounds_toArray, List.set_cons_zero, List.set_cons_succ]
        rfl
      refine pure_ (i := 4) (N := some 23) (v := ?_) (a' := ?_) #[true, true, true, false, true, false, false, false] rfl rfl (by kernel_rfl) (fun _ _ _ h => h) (Or.inl ⟨by rfl, ?_⟩) ?_ ?_
      rotate_left
      · intro w'
        go_simp
        with_reducible rfl
      rotate_left
      · simp only [Act.put, List.setIfInBounds_toArray, List.set_cons_zero, List.set_cons_succ]
        rfl
      refine take_ (i := 5) (N := some 24) (v := ?_) (a' := ?_) #[true, true, true, false, true, true, false, false] rfl rfl (by kernel_rfl) (fun _ _ _ h => h) (Or.inl ⟨by rfl, ?_⟩) hHeld ?_ ?_
      rotate_left
      · intro w' hS'
        obtain ⟨s0, s1⟩ := hS'
        go_simp
        with_reducible rfl
      rotate_left
      · simp only [Act.put, List.setIfInBounds_toArray, List.set_cons_zero, List.set_cons_succ]
        rfl
      refine one_ (i := 3) (N := some 22) #[true, true, true, true, true, true, false, false] rfl rfl (by kernel_rfl) (by simp) (fun K hK => ?_)
      refine goes_ Try.func60 (by kernel_rfl) rfl #[u0, .int .i64 pk.x] (by rfl) rfl rfl (by (try simp only [List.map_toArray, List.map_cons, List.map_nil]); first | done | rfl) ?_
      refine (put_any base (m + 1 + 8 * k) u0 _ pk.x W.drew hoW.out (by omega) (by show base ≤ W.heap.size; omega)).mono ?_
      rintro e w1 ⟨v1, rfl, ho1, hg1⟩
      have hS1 : w1.cell? ⟨wr.heap.size, 0, none⟩ = some (.int .i64 pk.x) ∧ w1.cell? ⟨wr.heap.size, 1, none⟩ = some (.int .i64 pk.y) := ⟨hg1.cell hQ.out.1 hne, hg1.cell hQ.out.2 hne⟩
      have hb1 := hid (below_grown hbW.out.drew (by show base ≤ W.heap.size; omega) hg1 (fun j e => (hoW.out.lt j e).1))
      refine ⟨_, rfl, hK.out _ _ hS1 (fun _ => ?_)⟩
      clear hK K
      refine last_ (i := 6) (N := some 25) #[true, true, true, true, true, true, true, false] rfl rfl (by kernel_rfl) (by simp) (fun K hK => ?_)
      refine goes_ Try.func60 (by kernel_rfl) rfl #[v1, .int .i64 pk.y] (by rfl) rfl rfl (by (try simp only [List.map_toArray, List.map_cons, List.map_nil]); first | done | rfl) ?_
      refine (put_any base (m + 1 + 8 * k + 4) v1 _ pk.y w1 ho1 (by omega) (by have := hb1.out.size; have := hg1.size; have : W.drew.heap.size = W.heap.size := rfl; omega)).mono ?_
      rintro e w2 ⟨v2, rfl, ho2, hg2⟩
      have hb2 := hid (below_grown hb1.out (by have := hg1.size; have : W.drew.heap.size = W.heap.size := rfl; omega) hg2 (fun j e => (ho1.lt j e).1))
      refine ⟨_, rfl, hK.out _ _ ?_⟩
      clear hK K
      refine pure_ (i := 7) (N := some 0) (v := ?_) (a' := ?_) #[true, true, true, true, true, true, true, true] rfl rfl (by kernel_rfl) (fun _ _ _ h => h) (Or.inl ⟨by rfl, ?_⟩) ?_ ?_
      rotate_left
      · intro w'
        go_simp
        with_reducible rfl
      rotate_left
      · simp only [Act.put, List.setIfInBounds_toArray, List.set_cons_zero, List.set_cons_succ]
        rfl
      refine done_ (by kernel_rfl) ?_
      have HO2 := hid ho2
      clear ho2 ho1 hg1 hg2 hS1
      go_wp2
      go_roundw
      case rel => exact ⟨k + 1, by omega, by go_num, own_ext HO2.out (by omega) (by rw [HT.out]; simp), hb2⟩
      case measure => simp [intOf]; omega
    · obtain rfl : k = l.length := by omega
      go_wp2
      go_ret
      exact ⟨_, rfl, own_ext ho.out rfl (by rw [List.take_length]; rfl), hb.out⟩
end Go.Proofs.Ytigcbldbolablaa
