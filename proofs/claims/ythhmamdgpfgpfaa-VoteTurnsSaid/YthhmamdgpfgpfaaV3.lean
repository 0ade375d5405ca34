/- A tick of the vote. -/
import Derived.Test.YthhmamdgpfgpfaaV1
import Derived.Test.YthhmamdgpfgpfaaV2
namespace Go.Proofs.Ythhmamdgpfgpfaa
open Go.RowKit
set_option linter.unusedSimpArgs false

/-- What a voter holds. -/
structure Vr where
  stale : Int
  split : Int
  v0 : Int
  v1 : Int
  v2 : Int
  a0 : Int
  a1 : Int
  a2 : Int
  sp : Int
/-- What a unit says. -/
structure Rd where
  ok : Bool
  x : Int
abbrev vb (s : Vr) : Obj := .cells #[.int .i64 s.stale, .int .u64 s.split, .int .i64 s.v0, .int .i64 s.v1, .int .i64 s.v2, .int .i64 s.a0, .int .i64 s.a1, .int .i64 s.a2, .int .i64 s.sp] 54 (0, 0)
abbrev ub (r0 r1 r2 : Rd) : Value := .agg #[.bool r0.ok, .int .i64 r0.x, .bool r1.ok, .int .i64 r1.x, .bool r2.ok, .int .i64 r2.x]
def nv (r : Rd) (v : Int) : Int := if r.ok then r.x else v
def na (r : Rd) (a : Int) : Int := if r.ok then 0 else imin (a + 1) 65535
def inc (st a v : Int) : List Int := if a ≤ st then [v] else []
def stK (s : Vr) (r0 r1 r2 : Rd) (k : Nat) : Vr :=
  { s with v0 := if 0 < k then nv r0 s.v0 else s.v0, v1 := if 1 < k then nv r1 s.v1 else s.v1, v2 := if 2 < k then nv r2 s.v2 else s.v2,
           a0 := if 0 < k then na r0 s.a0 else s.a0, a1 := if 1 < k then na r1 s.a1 else s.a1, a2 := if 2 < k then na r2 s.a2 else s.a2 }
def vlK (s : Vr) (r0 r1 r2 : Rd) (k : Nat) : List Int :=
  (if 0 < k then inc s.stale (na r0 s.a0) (nv r0 s.v0) else []) ++ (if 1 < k then inc s.stale (na r1 s.a1) (nv r1 s.v1) else []) ++ (if 2 < k then inc s.stale (na r2 s.a2) (nv r2 s.v2) else [])

theorem vb_cells {w : World} {b : Nat} {s : Vr} (h : w.heap[b]? = some (vb s)) :
    (w.cell? ⟨b, 0, none⟩ = some (.int .i64 s.stale) ∧ w.cell? ⟨b, 1, none⟩ = some (.int .u64 s.split) ∧ w.cell? ⟨b, 2, none⟩ = some (.int .i64 s.v0) ∧ w.cell? ⟨b, 3, none⟩ = some (.int .i64 s.v1) ∧ w.cell? ⟨b, 4, none⟩ = some (.int .i64 s.v2)
      ∧ w.cell? ⟨b, 5, none⟩ = some (.int .i64 s.a0) ∧ w.cell? ⟨b, 6, none⟩ = some (.int .i64 s.a1) ∧ w.cell? ⟨b, 7, none⟩ = some (.int .i64 s.a2) ∧ w.cell? ⟨b, 8, none⟩ = some (.int .i64 s.sp)) ∧ ∀ i, w.frozen? ⟨b, i, none⟩ = false := by
  simp [World.cell?, World.frozen?, h]

theorem info3 : ∃ i, Try.prog.info? 3 = some i ∧ i.zero = some (.int .i64 0) ∧ i.size = 1 ∧ i.bytes = 8 := by
  have h : (Try.prog.info? 3).map (fun i => (i.zero, i.size, i.bytes)) = some (some (.int .i64 0), 1, 8) := by kernel_rfl
  cases hi : Try.prog.info? 3 with
  | none => rw [hi] at h; simp at h
  | some i => rw [hi] at h; simp at h; exact ⟨i, rfl, h.1, h.2.1, h.2.2⟩

theorem make03 (W : World) : (Instr.makeSlice 55 (.int .i64 0) (.int .i64 3)).run Try.prog W = .ok (.slice (some ⟨W.heap.size, 0, none⟩) 0 3) (W.alloc (.cells #[.int .i64 0, .int .i64 0, .int .i64 0] 3)) := by
  obtain ⟨i, hi, hz, hs, hb⟩ := info3
  rw [run_make (P := Try.prog) W 55 3 i _ Try.underlying55 hi hz .i64 .i64 0 3 (by omega) (by omega) (by omega) (by omega), hs]
  kernel_rfl

theorem vlK_le (s : Vr) (r0 r1 r2 : Rd) (k : Nat) : (vlK s r0 r1 r2 k).length ≤ 3 := by
  unfold vlK inc
  simp only [List.length_append]
  split <;> split <;> split <;> (try split) <;> (try split) <;> (try split) <;> simp
theorem vlK_0 (s : Vr) (r0 r1 r2 : Rd) : vlK s r0 r1 r2 1 = vlK s r0 r1 r2 0 ++ inc s.stale (na r0 s.a0) (nv r0 s.v0) := by simp [vlK]
theorem vlK_1 (s : Vr) (r0 r1 r2 : Rd) : vlK s r0 r1 r2 2 = vlK s r0 r1 r2 1 ++ inc s.stale (na r1 s.a1) (nv r1 s.v1) := by simp [vlK]
theorem vlK_2 (s : Vr) (r0 r1 r2 : Rd) : vlK s r0 r1 r2 3 = vlK s r0 r1 r2 2 ++ inc s.stale (na r2 s.a2) (nv r2 s.v2) := by simp [vlK]

theorem idx0 (o0 : Bool) (x0 : Int) (o1 : Bool) (x1 : Int) (o2 : Bool) (x2 : Int) (W : World) : (Instr.index 38 (.agg #[.bool o0, .int .i64 x0, .bool o1, .int .i64 x1, .bool o2, .int .i64 x2]) (.int .i64 0)).run Try.prog W = .ok (.agg #[.bool o0, .int .i64 x0]) W := by kernel_rfl
theorem idx1 (o0 : Bool) (x0 : Int) (o1 : Bool) (x1 : Int) (o2 : Bool) (x2 : Int) (W : World) : (Instr.index 38 (.agg #[.bool o0, .int .i64 x0, .bool o1, .int .i64 x1, .bool o2, .int .i64 x2]) (.int .i64 1)).run Try.prog W = .ok (.agg #[.bool o1, .int .i64 x1]) W := by kernel_rfl
theorem idx2 (o0 : Bool) (x0 : Int) (o1 : Bool) (x1 : Int) (o2 : Bool) (x2 : Int) (W : World) : (Instr.index 38 (.agg #[.bool o0, .int .i64 x0, .bool o1, .int .i64 x1, .bool o2, .int .i64 x2]) (.int .i64 2)).run Try.prog W = .ok (.agg #[.bool o2, .int .i64 x2]) W := by kernel_rfl

theorem Put.conv {B : Nat} {w w' : World} {g : Nat} {o o' : Obj} (h : Put B w w' g o) (e : o = o') : Put B w w' g o' := e ▸ h
theorem below_grown {B : Nat} {a b c : World} {row : Option Nat} (h : Below B a b) (hB : B ≤ b.heap.size) (hg : b.grownBy c row) (hr : ∀ k, row = some k → B ≤ k) : Below B a c :=
  ⟨hg.os.trans h.os, hg.tape.trans h.tape, hg.output.trans h.output, Nat.le_trans h.size hg.size, fun k hk => (hg.block k (by omega) (fun e => by have := hr k e.symm; omega)).trans (h.block k hk)⟩

/-- The values in order. -/
def srt (zs : List Int) : List Int := zs.mergeSort fun x y => decide (x ≤ y)
def least (zs : List Int) : Int := (srt zs).getD 0 0
def most (zs : List Int) : Int := (srt zs).getD (zs.length - 1) 0
/-- The vote. -/
def pick (zs : List Int) : Int := if zs.length = 0 then 0 else if zs.length = 2 then least zs + (most zs - least zs) / 2 else (srt zs).getD (zs.length / 2) 0
def spl (split sp : Int) (zs : List Int) : Int := if zs.length ≠ 0 ∧ split < most zs - least zs then imin (sp + 1) 65535 else sp
/-- What a voter holds behind a tick. -/
def fin (s : Vr) (r0 r1 r2 : Rd) : Vr := { stK s r0 r1 r2 3 with sp := spl s.split s.sp (vlK s r0 r1 r2 3) }

theorem own_zero {w : World} {base : Nat} {e : TypeId} {size : Nat} {v : Value} {xs : List Value} (h : w.ownsRow base e size v 0 xs) : ∃ p cap, v = .slice p 0 cap := by
  rcases h.2 with ⟨h5, _⟩ | ⟨g, cap, cur, h5, _⟩
  · exact ⟨_, _, h5⟩
  · exact ⟨_, _, h5⟩
theorem own_some {w : World} {base : Nat} {e : TypeId} {v : Value} {n : Nat} {xs : List Value} (h : w.ownsRow base e 1 v n xs) (hn : n ≠ 0) :
    ∃ g cap cur, v = .slice (some ⟨g, 0, none⟩) n cap ∧ base ≤ g ∧ w.heap[g]? = some (.cells cur e (0, 0)) ∧ n ≤ cap ∧ cap ≤ maxLen ∧ cur.size = cap * 1 ∧ cur.toList.take (n * 1) = xs := by
  rcases h.2 with ⟨_, h5⟩ | ⟨g, cap, cur, h5⟩
  · exact absurd h5 hn
  · exact ⟨g, cap, cur, h5⟩

theorem srt_ord (zs : List Int) : (srt zs).Pairwise (fun x y => x ≤ y) := by
  have h := List.pairwise_mergeSort (le := fun x y : Int => decide (x ≤ y)) (fun a b c h1 h2 => by simp at *; omega) (fun a b => by simp; omega) zs
  exact h.imp (fun h => by simpa using h)

theorem u_diff {x y : Int} (h : x ≤ y) (hx : -9223372036854775808 ≤ x ∧ x < 9223372036854775808) (hy : -9223372036854775808 ≤ y ∧ y < 9223372036854775808) :
    IntKind.u64.wrap (IntKind.u64.wrap y - IntKind.u64.wrap x) = y - x := by
  have e : ∀ z : Int, IntKind.u64.wrap z = z % 18446744073709551616 := fun z => by simp [IntKind.wrap, IntKind.bits, IntKind.signed]
  rw [e, e, e]
  omega

theorem two_of {l : List Int} (h : l.length = 2) : ∃ a b, l = [a, b] := by
  match l, h with
  | [a, b], _ => exact ⟨a, b, rfl⟩
theorem three_of {l : List Int} (h : l.length = 3) : ∃ a b c, l = [a, b, c] := by
  match l, h with
  | [a, b, c], _ => exact ⟨a, b, c, rfl⟩

theorem own_ne {w : World} {base : Nat} {e : TypeId} {size : Nat} {v : Value} {n : Nat} {xs : List Value} (h : w.ownsRow base e size v n xs) {b : Nat} (hb : b < base) : v.ownBlock ≠ some b :=
  fun h1 => by have := (h.lt b h1).1; omega

theorem cell_one_new' (w : World) (v : Value) (t : TypeId) {n : Nat} (h : n = w.heap.size) : ∀ j u, [v][j]? = some u → (w.alloc (.cells #[v] t)).cell? ((⟨n, 0, none⟩ : Addr).add j) = some u := by
  subst h
  exact cell_one_new w v t

set_option maxRecDepth 100000 in
set_option maxHeartbeats 4000000 in
theorem step_any (b : Nat) (s : Vr) (r0 r1 r2 : Rd) (w : World) (hv : w.heap[b]? = some (vb s)) (hst : 0 ≤ s.stale) (hsp : 0 ≤ s.split) (hwf : ∀ z ∈ vlK s r0 r1 r2 3, -9223372036854775808 ≤ z ∧ z < 9223372036854775808) (hpos : 0 ≤ s.sp ∧ s.sp ≤ 65535) (ha0 : 0 ≤ s.a0 ∧ s.a0 ≤ 65535) (ha1 : 0 ≤ s.a1 ∧ s.a1 ≤ 65535) (ha2 : 0 ≤ s.a2 ∧ s.a2 ≤ 65535) :
    Calls Try.prog 14 #[.pointer (some ⟨b, 0, none⟩), ub r0 r1 r2] w fun e w' =>
      e = .returned (.agg #[.bool (decide ((vlK s r0 r1 r2 3).length ≠ 0)), .int .i64 (pick (vlK s r0 r1 r2 3))]) ∧ Put w.heap.size w w' b (vb (fin s r0 r1 r2)) := by
  have hlt : b < w.heap.size := (Array.getElem?_eq_some_iff.1 hv).1
  replace hv := hid hv
  have i0 := idx0
  have i1 := idx1
  have i2 := idx2
  have hmk := make03
  obtain ⟨i3, hi3, hz3, hs3, hb3⟩ := info3
  go_enter Try.func14, Try.ntmps14
  go_wp2
  obtain ⟨W2, hW2⟩ : ∃ W2, W2 = ((w.alloc (.cells #[.bool r0.ok, .int .i64 r0.x, .bool r1.ok, .int .i64 r1.x, .bool r2.ok, .int .i64 r2.x] 38)).alloc (.cells #[.bool false, .int .i64 0] 36)) := ⟨_, rfl⟩
  have hP0 : Put (w.heap.size + 1 + 1) W2 (((w.alloc (.cells #[.bool r0.ok, .int .i64 r0.x, .bool r1.ok, .int .i64 r1.x, .bool r2.ok, .int .i64 r2.x] 38)).alloc (.cells #[.bool false, .int .i64 0] 36)).alloc (.cells #[.int .i64 0, .int .i64 0, .int .i64 0] 3)) b (vb s) := by
    rw [← hW2]
    have hww : Below w.heap.size w W2 := by rw [hW2]; go_grown
    exact Put.of_below ((hww.block b hlt).trans hv.out) ((Below.refl _ _).alloc (by rw [hW2]; simp) _) (by omega)
  have hO0 : (((w.alloc (.cells #[.bool r0.ok, .int .i64 r0.x, .bool r1.ok, .int .i64 r1.x, .bool r2.ok, .int .i64 r2.x] 38)).alloc (.cells #[.bool false, .int .i64 0] 36)).alloc (.cells #[.int .i64 0, .int .i64 0, .int .i64 0] 3)).ownsRow (w.heap.size + 1 + 1) 3 1 (.slice (some ⟨w.heap.size + 1 + 1, 0, none⟩) 0 3) 0 [] := by
    have h := World.ownsRow_made (base := w.heap.size + 1 + 1) (e := 3) (size := 1) ((w.alloc (.cells #[.bool r0.ok, .int .i64 r0.x, .bool r1.ok, .int .i64 r1.x, .bool r2.ok, .int .i64 r2.x] 38)).alloc (.cells #[.bool false, .int .i64 0] 36)) #[.int .i64 0, .int .i64 0, .int .i64 0] 3 (by simp) (by unfold maxLen; omega) rfl
    simpa using h
  replace hW2 := hid hW2
  go_loopw [5, 16] (fun v5 v16 wr => ∃ k : Nat, v16 = .int .i64 k ∧ k ≤ 3 ∧ Hid (Put (w.heap.size + 1 + 1) W2 wr b (vb (stK s r0 r1 r2 k)) ∧ w.heap.size + 1 + 1 < wr.heap.size) ∧ Hid (wr.ownsRow (w.heap.size + 1 + 1) 3 1 v5 (vlK s r0 r1 r2 k).length ((vlK s r0 r1 r2 k).map (Value.int .i64)))) (fun _ i _ => 3 - (intOf i).toNat)
  case atStart => exact ⟨0, rfl, by omega, ⟨hid hP0, by simp⟩, hid hO0⟩
  case round =>
    obtain ⟨k, rfl, hk, hP, hO⟩ := hrel
    obtain ⟨⟨c0, c1, c2, c3, c4, c5, c6, c7, c8⟩, hfr⟩ := vb_cells hP.out.1.at_
    have hlr := hP.out.1.lt
    have hsz := hP.out.2
    have f2 := hfr 2
    have f3 := hfr 3
    have f4 := hfr 4
    have f5 := hfr 5
    have f6 := hfr 6
    have f7 := hfr 7
    clear hfr
    have : k = 3 ∨ k = 0 ∨ k = 1 ∨ k = 2 := by omega
    rcases this with rfl | rfl | rfl | rfl
    · have hres : W2.cell? ⟨w.heap.size + 1, 0, none⟩ = some (.bool false) ∧ W2.cell? ⟨w.heap.size + 1, 1, none⟩ = some (.int .i64 0) ∧ W2.frozen? ⟨w.heap.size + 1, 0, none⟩ = false ∧ W2.frozen? ⟨w.heap.size + 1, 1, none⟩ = false := by
        rw [hW2.out]; simp [go_sem]
      have e0 := hP.out.1.other (b := w.heap.size + 1) (i := 0) (by omega) (by omega)
      have e1 := hP.out.1.other (b := w.heap.size + 1) (i := 1) (by omega) (by omega)
      rw [hres.1, hres.2.2.1] at e0
      rw [hres.2.1, hres.2.2.2] at e1
      obtain ⟨e0, e0f⟩ := e0
      obtain ⟨e1, e1f⟩ := e1
      clear hres
      have hWW : Hid (Below w.heap.size w W2) := by rw [hW2.out]; exact hid (by go_grown)
      have hfin : Hid (fin s r0 r1 r2 = { stK s r0 r1 r2 3 with sp := spl s.split s.sp (vlK s r0 r1 r2 3) }) := rfl
      obtain ⟨zs, hzs⟩ : ∃ zs, zs = vlK s r0 r1 r2 3 := ⟨_, rfl⟩
      have hzl := vlK_le s r0 r1 r2 3
      rw [← hzs] at hO hfin hzl
      replace hzs := hid hzs
      by_cases hn : zs.length = 0
      · have hz : zs = [] := List.length_eq_zero_iff.1 hn
        subst hz
        obtain ⟨p5, c5', h5⟩ := own_zero hO.out
        subst h5
        go_wp2
        refine bodyPost_ret (v := .agg #[.bool false, .int .i64 0]) (by simp [results, Try.results14, go_sem, e0, e1]) rfl ⟨?_, ?_⟩
        · rw [← hzs.out]; rfl
        · rw [hfin.out]
          exact (Put.first hWW.out (hP.out.1.mono (by omega))).later (by go_grown) hlt
      · obtain ⟨g, cap, cur, h5, hg, hcur, hcap, hmax, hcs, htk⟩ := own_some hO.out hn
        subst h5
        have hgl : g < wr.heap.size := (Array.getElem?_eq_some_iff.1 hcur).1
        have hH := holds_of_blockI (ss := zs) hcur (by rw [Nat.mul_one] at htk; exact htk)
        go_wp2_with fail
        refine (Try.slices_Sort_int g 0 cap zs wr hH hgl (by omega)).mono ?_
        rintro e w4 ⟨rfl, nn, os, hw4⟩
        have hS : w4.ownsRow (w.heap.size + 1 + 1) 3 1 (.slice (some ⟨g, 0, none⟩) zs.length cap) zs.length ((srt zs).map (Value.int .i64)) := by
          rw [hw4]; exact ownsRow_sortedI (by simp [srt]) hg hcur hcap hmax hcs
        have hG : wr.grownBy w4 (some g) := by rw [hw4]; exact grownBy_sortedI _
        clear hw4
        have hB4 : Below (w.heap.size + 1 + 1) wr w4 := below_grown (Below.refl _ _) (by omega) hG (fun j e => by cases e; exact hg)
        have hP4 := hP.out.1.later hB4 (by omega)
        obtain ⟨⟨_, k1, _, _, _, _, _, _, k8⟩, hfr⟩ := vb_cells hP4.at_
        have g8 := hfr 8
        replace k1 : w4.cell? ⟨b, 1, none⟩ = some (.int .u64 s.split) := k1
        replace k8 : w4.cell? ⟨b, 8, none⟩ = some (.int .i64 s.sp) := k8
        have hmr := Put.mono (C := w.heap.size) hP4 (by omega)
        replace hmr := hid (Put.first hWW.out hmr)
        have hb4 := hP4.lt
        have d0 := (hB4.cell (p := ⟨w.heap.size + 1, 0, none⟩) (by simp)).trans e0
        have d1 := (hB4.cell (p := ⟨w.heap.size + 1, 1, none⟩) (by simp)).trans e1
        have d0f := (hB4.frozen (p := ⟨w.heap.size + 1, 0, none⟩) (by simp)).trans e0f
        have d1f := (hB4.frozen (p := ⟨w.heap.size + 1, 1, none⟩) (by simp)).trans e1f
        have hsl : (srt zs).length = zs.length := by simp [srt]
        have hord : (srt zs).Pairwise (fun x y => x ≤ y) := srt_ord zs
        have hbd : ∀ z ∈ srt zs, -9223372036854775808 ≤ z ∧ z < 9223372036854775808 := fun z hz => hwf z (by rw [← hzs.out]; simpa [srt] using hz)
        have hls : least zs = (srt zs).getD 0 0 := rfl
        have hms : most zs = (srt zs).getD (zs.length - 1) 0 := rfl
        have hpk : Hid (pick zs = if zs.length = 0 then 0 else if zs.length = 2 then least zs + (most zs - least zs) / 2 else (srt zs).getD (zs.length / 2) 0) := rfl
        have hspl : Hid (spl s.split s.sp zs = if zs.length ≠ 0 ∧ s.split < most zs - least zs then imin (s.sp + 1) 65535 else s.sp) := rfl
        replace hls := hid hls
        replace hms := hid hms
        clear e0 e1 e0f e1f c0 c1 c2 c3 c4 c5 c6 c7 c8 f2 f3 f4 f5 f6 f7 hfr
        replace hP4 := hid hP4
        replace hB4 := hid hB4
        replace hG := hid hG
        replace hS := hid hS
        replace hH := hid hH
        replace hwf := hid hwf
        replace hbd := hid hbd
        replace hord := hid hord
        generalize srt zs = ts at *
        replace hfin := hid hfin
        have hn' : zs.length = 1 ∨ zs.length = 2 ∨ zs.length = 3 := by omega
        rcases hn' with h1 | h1 | h1
        · rw [h1] at hsl hS hms hpk hspl
          obtain ⟨t0, rfl⟩ := List.length_eq_one_iff.1 hsl
          have q0 : w4.cell? ⟨g, 0, none⟩ = some (.int .i64 t0) := hS.out.cellAt 0 (by omega)
          rw [h1]
          replace hsl := hid hsl
          replace h1 := hid h1
          go_wp2
          go_region
          go_wp2
          refine bodyPost_ret (v := .agg #[.bool true, .int .i64 t0]) (by simp [results, Try.results14, go_sem, d0, d1]) rfl ⟨?_, ?_⟩
          · rw [← hzs.out, h1.out, hpk.out]; rfl
          · rw [hfin.out.out, hspl.out, hms.out, hls.out]
            rw [if_neg (by simp; omega)]
            exact hmr.out.later (by go_grown) hlt
        · rw [h1] at hsl hS hms hpk hspl
          obtain ⟨t0, t1, rfl⟩ := two_of hsl
          have q0 : w4.cell? ⟨g, 0, none⟩ = some (.int .i64 t0) := hS.out.cellAt 0 (by omega)
          have q1 : w4.cell? ⟨g, 1, none⟩ = some (.int .i64 t1) := hS.out.cellAt 1 (by omega)
          have hle : t0 ≤ t1 := by have := hord.out; simp at this; exact this
          have hb0 := hbd.out t0 (by simp)
          have hb1 := hbd.out t1 (by simp)
          have hdf : IntKind.u64.wrap (IntKind.u64.wrap t1 - IntKind.u64.wrap t0) = t1 - t0 := u_diff hle hb0 hb1
          rw [h1]
          replace hsl := hid hsl
          replace h1 := hid h1
          by_cases hgt : s.split < t1 - t0
          · go_wp2
            go_region
            go_wp2
            refine bodyPost_ret (v := .agg #[.bool true, .int .i64 (t0 + (t1 - t0) / 2)]) (by simp [results, Try.results14, go_sem, d0, d1]) rfl ⟨?_, ?_⟩
            · rw [← hzs.out, h1.out, hpk.out]; simp [hms.out, hls.out]
            · rw [hfin.out.out, hspl.out, hms.out, hls.out, if_pos ⟨by omega, by simpa using hgt⟩]
              exact (hmr.out.trans ((Put.set w.heap.size (i := 8) (v := .int .i64 (imin (s.sp + 1) 65535)) hmr.out.at_).conv (by simp [vb]))).later (by go_grown) hlt
          · go_wp2
            go_region
            go_wp2
            refine bodyPost_ret (v := .agg #[.bool true, .int .i64 (t0 + (t1 - t0) / 2)]) (by simp [results, Try.results14, go_sem, d0, d1]) rfl ⟨?_, ?_⟩
            · rw [← hzs.out, h1.out, hpk.out]; simp [hms.out, hls.out]
            · rw [hfin.out.out, hspl.out, hms.out, hls.out, if_neg (by simpa using hgt)]
              exact hmr.out.later (by go_grown) hlt
        · rw [h1] at hsl hS hms hpk hspl
          obtain ⟨t0, t1, t2, rfl⟩ := three_of hsl
          have q0 : w4.cell? ⟨g, 0, none⟩ = some (.int .i64 t0) := hS.out.cellAt 0 (by omega)
          have q1 : w4.cell? ⟨g, 1, none⟩ = some (.int .i64 t1) := hS.out.cellAt 1 (by omega)
          have q2 : w4.cell? ⟨g, 2, none⟩ = some (.int .i64 t2) := hS.out.cellAt 2 (by omega)
          have hle : t0 ≤ t2 := by have := hord.out; simp at this; omega
          have hb0 := hbd.out t0 (by simp)
          have hb1 := hbd.out t2 (by simp)
          have hdf : IntKind.u64.wrap (IntKind.u64.wrap t2 - IntKind.u64.wrap t0) = t2 - t0 := u_diff hle hb0 hb1
          rw [h1]
          replace hsl := hid hsl
          replace h1 := hid h1
          by_cases hgt : s.split < t2 - t0
          · go_wp2
            go_region
            go_wp2
            refine bodyPost_ret (v := .agg #[.bool true, .int .i64 (t1)]) (by simp [results, Try.results14, go_sem, d0, d1]) rfl ⟨?_, ?_⟩
            · rw [← hzs.out, h1.out, hpk.out]; simp [hms.out, hls.out]
            · rw [hfin.out.out, hspl.out, hms.out, hls.out, if_pos ⟨by omega, by simpa using hgt⟩]
              exact (hmr.out.trans ((Put.set w.heap.size (i := 8) (v := .int .i64 (imin (s.sp + 1) 65535)) hmr.out.at_).conv (by simp [vb]))).later (by go_grown) hlt
          · go_wp2
            go_region
            go_wp2
            refine bodyPost_ret (v := .agg #[.bool true, .int .i64 (t1)]) (by simp [results, Try.results14, go_sem, d0, d1]) rfl ⟨?_, ?_⟩
            · rw [← hzs.out, h1.out, hpk.out]; simp [hms.out, hls.out]
            · rw [hfin.out.out, hspl.out, hms.out, hls.out, if_neg (by simpa using hgt)]
              exact hmr.out.later (by go_grown) hlt
    · simp only [stK, Nat.lt_irrefl, if_false, Nat.not_lt_zero, (by decide : ¬ (2 < 1)), (by decide : ¬ (1 < 1)), (by decide : (0 < 1)), (by decide : (0 < 2)), (by decide : (1 < 2)), (by decide : ¬ (2 < 2)), if_true] at c0 c2 c3 c4 c5 c6 c7
      have hob := own_ne hO.out (b := b) (by omega)
      have hkv := vlK_0 s r0 r1 r2
      cases ho : r0.ok with
      | true =>
        have hna : na r0 s.a0 = 0 := by simp [na, ho]
        have hnv : nv r0 s.v0 = r0.x := by simp [nv, ho]
        rw [hna, hnv, inc, if_pos hst] at hkv
        replace hna := hid hna
        replace hnv := hid hnv
        replace hkv := hid hkv
        go_wp2
        go_region
        go_wp2
        go_region
        go_wp2
        go_region
        go_wp2_with (at_builtin; refine wpList_append_own _ rfl _ _ 55 rfl (w.heap.size + 1 + 1) 3 i3 (.int .i64 0) 1 8 Try.underlying55 hi3 hz3 hs3 hb3 rfl (by decide) _ _ _ rfl (((ownsRow_setCell_other (ownsRow_setCell_other (ownsRow_setCell_other hO.out hob _) hob _) hob _).alloc _).alloc _) ⟨wr.heap.size + 1, 0, none⟩ 1 1 [.int .i64 r0.x] rfl rfl (cell_one_new' _ _ _ (by simp)) (fun x hx => by simp at hx; subst hx; rfl) (by have := vlK_le s r0 r1 r2 0; unfold maxLen; omega) (by have := vlK_le s r0 r1 r2 0; omega) (by simp; omega) ?_; intro v' w3 hown' hgrow3 hnil3)
        go_roundw
        case rel =>
          refine ⟨1, rfl, by omega, ?_, ?_⟩
          · have hA := Put.set (w.heap.size + 1 + 1) (i := 5) (v := .int .i64 (imin (s.a0 + 1) 65535)) hP.out.1.at_
            have hB := Put.set (w.heap.size + 1 + 1) (i := 2) (v := .int .i64 r0.x) hA.at_
            have hC := Put.set (w.heap.size + 1 + 1) (i := 5) (v := .int .i64 0) hB.at_
            refine hid ⟨(hP.out.1.trans (((hA.trans hB).trans hC).conv (by simp [vb, stK, hna.out, hnv.out]))).later (below_grown (by go_grown) (by simp; omega) hgrow3 (fun j e => (hO.out.lt j e).1)) (by omega), Nat.lt_of_lt_of_le (by simp; omega) hgrow3.size⟩
          · rw [hkv.out, List.length_append, List.map_append]; exact hid hown'
        case measure => simp [intOf]
      | false =>
        have hna : na r0 s.a0 = imin (s.a0 + 1) 65535 := by simp [na, ho]
        have hnv : nv r0 s.v0 = s.v0 := by simp [nv, ho]
        rw [hna, hnv, inc] at hkv
        replace hna := hid hna
        replace hnv := hid hnv
        by_cases hle : imin (s.a0 + 1) 65535 ≤ s.stale
        · rw [if_pos hle] at hkv
          replace hkv := hid hkv
          go_wp2
          go_region
          go_wp2
          go_region
          go_wp2_with (at_builtin; refine wpList_append_own _ rfl _ _ 55 rfl (w.heap.size + 1 + 1) 3 i3 (.int .i64 0) 1 8 Try.underlying55 hi3 hz3 hs3 hb3 rfl (by decide) _ _ _ rfl (((ownsRow_setCell_other hO.out hob _).alloc _).alloc _) ⟨wr.heap.size + 1, 0, none⟩ 1 1 [.int .i64 s.v0] rfl rfl (cell_one_new' _ _ _ (by simp)) (fun x hx => by simp at hx; subst hx; rfl) (by have := vlK_le s r0 r1 r2 0; unfold maxLen; omega) (by have := vlK_le s r0 r1 r2 0; omega) (by simp; omega) ?_; intro v' w3 hown' hgrow3 hnil3)
          go_roundw
          case rel =>
            refine ⟨1, rfl, by omega, ?_, ?_⟩
            · have hA := Put.set (w.heap.size + 1 + 1) (i := 5) (v := .int .i64 (imin (s.a0 + 1) 65535)) hP.out.1.at_
              refine hid ⟨(hP.out.1.trans (hA.conv (by simp [vb, stK, hna.out, hnv.out]))).later (below_grown (by go_grown) (by simp; omega) hgrow3 (fun j e => (hO.out.lt j e).1)) (by omega), Nat.lt_of_lt_of_le (by simp; omega) hgrow3.size⟩
            · rw [hkv.out, List.length_append, List.map_append]; exact hid hown'
          case measure => simp [intOf]
        · rw [if_neg hle] at hkv
          replace hkv := hid hkv
          go_wp2
          go_region
          go_wp2
          go_region
          go_wp2
          go_roundw
          case rel =>
            refine ⟨1, rfl, by omega, ?_, ?_⟩
            · have hA := Put.set (w.heap.size + 1 + 1) (i := 5) (v := .int .i64 (imin (s.a0 + 1) 65535)) hP.out.1.at_
              refine hid ⟨(hP.out.1.trans (hA.conv (by simp [vb, stK, hna.out, hnv.out]))).later (by go_grown) (by omega), by simp; omega⟩
            · rw [hkv.out, List.append_nil]; exact hid ((ownsRow_setCell_other hO.out hob _).alloc _)
          case measure => simp [intOf]
    · simp only [stK, Nat.lt_irrefl, if_false, Nat.not_lt_zero, (by decide : ¬ (2 < 1)), (by decide : ¬ (1 < 1)), (by decide : (0 < 1)), (by decide : (0 < 2)), (by decide : (1 < 2)), (by decide : ¬ (2 < 2)), if_true] at c0 c2 c3 c4 c5 c6 c7
      have hob := own_ne hO.out (b := b) (by omega)
      have hkv := vlK_1 s r0 r1 r2
      cases ho : r1.ok with
      | true =>
        have hna : na r1 s.a1 = 0 := by simp [na, ho]
        have hnv : nv r1 s.v1 = r1.x := by simp [nv, ho]
        rw [hna, hnv, inc, if_pos hst] at hkv
        replace hna := hid hna
        replace hnv := hid hnv
        replace hkv := hid hkv
        go_wp2
        go_region
        go_wp2
        go_region
        go_wp2
        go_region
        go_wp2_with (at_builtin; refine wpList_append_own _ rfl _ _ 55 rfl (w.heap.size + 1 + 1) 3 i3 (.int .i64 0) 1 8 Try.underlying55 hi3 hz3 hs3 hb3 rfl (by decide) _ _ _ rfl (((ownsRow_setCell_other (ownsRow_setCell_other (ownsRow_setCell_other hO.out hob _) hob _) hob _).alloc _).alloc _) ⟨wr.heap.size + 1, 0, none⟩ 1 1 [.int .i64 r1.x] rfl rfl (cell_one_new' _ _ _ (by simp)) (fun x hx => by simp at hx; subst hx; rfl) (by have := vlK_le s r0 r1 r2 1; unfold maxLen; omega) (by have := vlK_le s r0 r1 r2 1; omega) (by simp; omega) ?_; intro v' w3 hown' hgrow3 hnil3)
        go_roundw
        case rel =>
          refine ⟨2, rfl, by omega, ?_, ?_⟩
          · have hA := Put.set (w.heap.size + 1 + 1) (i := 6) (v := .int .i64 (imin (s.a1 + 1) 65535)) hP.out.1.at_
            have hB := Put.set (w.heap.size + 1 + 1) (i := 3) (v := .int .i64 r1.x) hA.at_
            have hC := Put.set (w.heap.size + 1 + 1) (i := 6) (v := .int .i64 0) hB.at_
            refine hid ⟨(hP.out.1.trans (((hA.trans hB).trans hC).conv (by simp [vb, stK, hna.out, hnv.out]))).later (below_grown (by go_grown) (by simp; omega) hgrow3 (fun j e => (hO.out.lt j e).1)) (by omega), Nat.lt_of_lt_of_le (by simp; omega) hgrow3.size⟩
          · rw [hkv.out, List.length_append, List.map_append]; exact hid hown'
        case measure => simp [intOf]
      | false =>
        have hna : na r1 s.a1 = imin (s.a1 + 1) 65535 := by simp [na, ho]
        have hnv : nv r1 s.v1 = s.v1 := by simp [nv, ho]
        rw [hna, hnv, inc] at hkv
        replace hna := hid hna
        replace hnv := hid hnv
        by_cases hle : imin (s.a1 + 1) 65535 ≤ s.stale
        · rw [if_pos hle] at hkv
          replace hkv := hid hkv
          go_wp2
          go_region
          go_wp2
          go_region
          go_wp2_with (at_builtin; refine wpList_append_own _ rfl _ _ 55 rfl (w.heap.size + 1 + 1) 3 i3 (.int .i64 0) 1 8 Try.underlying55 hi3 hz3 hs3 hb3 rfl (by decide) _ _ _ rfl (((ownsRow_setCell_other hO.out hob _).alloc _).alloc _) ⟨wr.heap.size + 1, 0, none⟩ 1 1 [.int .i64 s.v1] rfl rfl (cell_one_new' _ _ _ (by simp)) (fun x hx => by simp at hx; subst hx; rfl) (by have := vlK_le s r0 r1 r2 1; unfold maxLen; omega) (by have := vlK_le s r0 r1 r2 1; omega) (by simp; omega) ?_; intro v' w3 hown' hgrow3 hnil3)
          go_roundw
          case rel =>
            refine ⟨2, rfl, by omega, ?_, ?_⟩
            · have hA := Put.set (w.heap.size + 1 + 1) (i := 6) (v := .int .i64 (imin (s.a1 + 1) 65535)) hP.out.1.at_
              refine hid ⟨(hP.out.1.trans (hA.conv (by simp [vb, stK, hna.out, hnv.out]))).later (below_grown (by go_grown) (by simp; omega) hgrow3 (fun j e => (hO.out.lt j e).1)) (by omega), Nat.lt_of_lt_of_le (by simp; omega) hgrow3.size⟩
            · rw [hkv.out, List.length_append, List.map_append]; exact hid hown'
          case measure => simp [intOf]
        · rw [if_neg hle] at hkv
          replace hkv := hid hkv
          go_wp2
          go_region
          go_wp2
          go_region
          go_wp2
          go_roundw
          case rel =>
            refine ⟨2, rfl, by omega, ?_, ?_⟩
            · have hA := Put.set (w.heap.size + 1 + 1) (i := 6) (v := .int .i64 (imin (s.a1 + 1) 65535)) hP.out.1.at_
              refine hid ⟨(hP.out.1.trans (hA.conv (by simp [vb, stK, hna.out, hnv.out]))).later (by go_grown) (by omega), by simp; omega⟩
            · rw [hkv.out, List.append_nil]; exact hid ((ownsRow_setCell_other hO.out hob _).alloc _)
          case measure => simp [intOf]
    · simp only [stK, Nat.lt_irrefl, if_false, Nat.not_lt_zero, (by decide : ¬ (2 < 1)), (by decide : ¬ (1 < 1)), (by decide : (0 < 1)), (by decide : (0 < 2)), (by decide : (1 < 2)), (by decide : ¬ (2 < 2)), if_true] at c0 c2 c3 c4 c5 c6 c7
      have hob := own_ne hO.out (b := b) (by omega)
      have hkv := vlK_2 s r0 r1 r2
      cases ho : r2.ok with
      | true =>
        have hna : na r2 s.a2 = 0 := by simp [na, ho]
        have hnv : nv r2 s.v2 = r2.x := by simp [nv, ho]
        rw [hna, hnv, inc, if_pos hst] at hkv
        replace hna := hid hna
        replace hnv := hid hnv
        replace hkv := hid hkv
        go_wp2
        go_region
        go_wp2
        go_region
        go_wp2
        go_region
        go_wp2_with (at_builtin; refine wpList_append_own _ rfl _ _ 55 rfl (w.heap.size + 1 + 1) 3 i3 (.int .i64 0) 1 8 Try.underlying55 hi3 hz3 hs3 hb3 rfl (by decide) _ _ _ rfl (((ownsRow_setCell_other (ownsRow_setCell_other (ownsRow_setCell_other hO.out hob _) hob _) hob _).alloc _).alloc _) ⟨wr.heap.size + 1, 0, none⟩ 1 1 [.int .i64 r2.x] rfl rfl (cell_one_new' _ _ _ (by simp)) (fun x hx => by simp at hx; subst hx; rfl) (by have := vlK_le s r0 r1 r2 2; unfold maxLen; omega) (by have := vlK_le s r0 r1 r2 2; omega) (by simp; omega) ?_; intro v' w3 hown' hgrow3 hnil3)
        go_roundw
        case rel =>
          refine ⟨3, rfl, by omega, ?_, ?_⟩
          · have hA := Put.set (w.heap.size + 1 + 1) (i := 7) (v := .int .i64 (imin (s.a2 + 1) 65535)) hP.out.1.at_
            have hB := Put.set (w.heap.size + 1 + 1) (i := 4) (v := .int .i64 r2.x) hA.at_
            have hC := Put.set (w.heap.size + 1 + 1) (i := 7) (v := .int .i64 0) hB.at_
            refine hid ⟨(hP.out.1.trans (((hA.trans hB).trans hC).conv (by simp [vb, stK, hna.out, hnv.out]))).later (below_grown (by go_grown) (by simp; omega) hgrow3 (fun j e => (hO.out.lt j e).1)) (by omega), Nat.lt_of_lt_of_le (by simp; omega) hgrow3.size⟩
          · rw [hkv.out, List.length_append, List.map_append]; exact hid hown'
        case measure => simp [intOf]
      | false =>
        have hna : na r2 s.a2 = imin (s.a2 + 1) 65535 := by simp [na, ho]
        have hnv : nv r2 s.v2 = s.v2 := by simp [nv, ho]
        rw [hna, hnv, inc] at hkv
        replace hna := hid hna
        replace hnv := hid hnv
        by_cases hle : imin (s.a2 + 1) 65535 ≤ s.stale
        · rw [if_pos hle] at hkv
          replace hkv := hid hkv
          go_wp2
          go_region
          go_wp2
          go_region
          go_wp2_with (at_builtin; refine wpList_append_own _ rfl _ _ 55 rfl (w.heap.size + 1 + 1) 3 i3 (.int .i64 0) 1 8 Try.underlying55 hi3 hz3 hs3 hb3 rfl (by decide) _ _ _ rfl (((ownsRow_setCell_other hO.out hob _).alloc _).alloc _) ⟨wr.heap.size + 1, 0, none⟩ 1 1 [.int .i64 s.v2] rfl rfl (cell_one_new' _ _ _ (by simp)) (fun x hx => by simp at hx; subst hx; rfl) (by have := vlK_le s r0 r1 r2 2; unfold maxLen; omega) (by have := vlK_le s r0 r1 r2 2; omega) (by simp; omega) ?_; intro v' w3 hown' hgrow3 hnil3)
          go_roundw
          case rel =>
            refine ⟨3, rfl, by omega, ?_, ?_⟩
            · have hA := Put.set (w.heap.size + 1 + 1) (i := 7) (v := .int .i64 (imin (s.a2 + 1) 65535)) hP.out.1.at_
              refine hid ⟨(hP.out.1.trans (hA.conv (by simp [vb, stK, hna.out, hnv.out]))).later (below_grown (by go_grown) (by simp; omega) hgrow3 (fun j e => (hO.out.lt j e).1)) (by omega), Nat.lt_of_lt_of_le (by simp; omega) hgrow3.size⟩
            · rw [hkv.out, List.length_append, List.map_append]; exact hid hown'
          case measure => simp [intOf]
        · rw [if_neg hle] at hkv
          replace hkv := hid hkv
          go_wp2
          go_region
          go_wp2
          go_region
          go_wp2
          go_roundw
          case rel =>
            refine ⟨3, rfl, by omega, ?_, ?_⟩
            · have hA := Put.set (w.heap.size + 1 + 1) (i := 7) (v := .int .i64 (imin (s.a2 + 1) 65535)) hP.out.1.at_
              refine hid ⟨(hP.out.1.trans (hA.conv (by simp [vb, stK, hna.out, hnv.out]))).later (by go_grown) (by omega), by simp; omega⟩
            · rw [hkv.out, List.append_nil]; exact hid ((ownsRow_setCell_other hO.out hob _).alloc _)
          case measure => simp [intOf]
end Go.Proofs.Ythhmamdgpfgpfaa
