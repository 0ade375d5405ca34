/- The chapter's examples stand: what 'awake' answers. -/
import Derived.Test.YthhmamdgpfgpfaaV5
namespace Go.Proofs.Ythhmamdgpfgpfaa
open Go.RowKit
set_option linter.unusedSimpArgs false

theorem carry_b {W W' : World} {b : Nat} {o : Obj} (hb : Below W.heap.size W W') (h : W.heap[b]? = some o) : W'.heap[b]? = some o := (hb.block b (Array.getElem?_eq_some_iff.1 h).1).trans h
theorem carry_p {W W' : World} {b g : Nat} {o o' : Obj} (hp : Put W.heap.size W W' g o') (h : W.heap[b]? = some o) (hn : b ≠ g) : W'.heap[b]? = some o := (hp.block b (Array.getElem?_eq_some_iff.1 h).1 hn).trans h
theorem carry_a {W : World} {b : Nat} {o o' : Obj} (h : W.heap[b]? = some o) : (W.alloc o').heap[b]? = some o := carry_b ((Below.refl _ _).alloc (Nat.le_refl _) _) h
theorem heap_lt {W : World} {b : Nat} {o : Obj} (h : W.heap[b]? = some o) : b < W.heap.size := (Array.getElem?_eq_some_iff.1 h).1
abbrev rb (o : Bool) (x : Int) : Obj := .cells #[.bool o, .int .i64 x] 36 (0, 0)
theorem rb_cells {w : World} {b : Nat} {o : Bool} {x : Int} (h : w.heap[b]? = some (rb o x)) : w.cell? ⟨b, 0, none⟩ = some (.bool o) ∧ w.cell? ⟨b, 1, none⟩ = some (.int .i64 x) := by
  simp [World.cell?, h]

def s0 : Vr := ⟨2, 10, 0, 0, 0, 65535, 65535, 65535, 0⟩
def s2 : Vr := ⟨2, 10, 6, 9, 0, 0, 0, 65535, 0⟩
def s3 : Vr := ⟨2, 10, 6, -8, 100, 1, 0, 0, 1⟩
def si : Rd := ⟨false, 77⟩

theorem tick1 (b : Nat) (w : World) (h : w.heap[b]? = some (vb s0)) : Calls Try.prog 14 #[.pointer (some ⟨b, 0, none⟩), ub si si si] w fun e w' => e = .returned (.agg #[.bool false, .int .i64 0]) ∧ Put w.heap.size w w' b (vb s0) := by
  have e1 : vlK s0 si si si 3 = [] := by decide
  have e2 : fin s0 si si si = s0 := by simp [fin, e1, spl]; rfl
  refine (step_any b s0 si si si w h (by decide) (by decide) (by rw [e1]; simp) (by decide) (by decide) (by decide) (by decide)).mono ?_
  rintro e w' ⟨rfl, hp⟩
  rw [e1, e2] at *
  exact ⟨rfl, hp⟩

theorem srt2 : srt [6, 9] = [6, 9] := by simp [srt, List.mergeSort, List.MergeSort.Internal.splitInTwo]
theorem srt3 : srt [6, -8, 100] = [-8, 6, 100] := by simp [srt, List.mergeSort, List.MergeSort.Internal.splitInTwo]

theorem tick2 (b : Nat) (w : World) (h : w.heap[b]? = some (vb s0)) : Calls Try.prog 14 #[.pointer (some ⟨b, 0, none⟩), ub ⟨true, 6⟩ ⟨true, 9⟩ si] w fun e w' => e = .returned (.agg #[.bool true, .int .i64 7]) ∧ Put w.heap.size w w' b (vb s2) := by
  have e1 : vlK s0 ⟨true, 6⟩ ⟨true, 9⟩ si 3 = [6, 9] := by decide
  have e4 : spl s0.split s0.sp [6, 9] = 0 := by simp [spl, most, least, srt2, s0]
  have e2 : fin s0 ⟨true, 6⟩ ⟨true, 9⟩ si = s2 := by unfold fin; rw [e1, e4]; rfl
  have e3 : pick [6, 9] = 7 := by simp [pick, most, least, srt2]
  refine (step_any b s0 ⟨true, 6⟩ ⟨true, 9⟩ si w h (by decide) (by decide) (by rw [e1]; simp) (by decide) (by decide) (by decide) (by decide)).mono ?_
  rintro e w' ⟨rfl, hp⟩
  rw [e1, e2] at *
  rw [e3]
  exact ⟨rfl, hp⟩

theorem tick3 (b : Nat) (w : World) (h : w.heap[b]? = some (vb s2)) : Calls Try.prog 14 #[.pointer (some ⟨b, 0, none⟩), ub si ⟨true, -8⟩ ⟨true, 100⟩] w fun e w' => e = .returned (.agg #[.bool true, .int .i64 6]) ∧ Put w.heap.size w w' b (vb s3) := by
  have e1 : vlK s2 si ⟨true, -8⟩ ⟨true, 100⟩ 3 = [6, -8, 100] := by decide
  have e4 : spl s2.split s2.sp [6, -8, 100] = 1 := by simp [spl, most, least, srt3, s2, imin]
  have e2 : fin s2 si ⟨true, -8⟩ ⟨true, 100⟩ = s3 := by unfold fin; rw [e1, e4]; rfl
  have e3 : pick [6, -8, 100] = 6 := by simp [pick, most, least, srt3]
  refine (step_any b s2 si ⟨true, -8⟩ ⟨true, 100⟩ w h (by decide) (by decide) (by rw [e1]; simp) (by decide) (by decide) (by decide) (by decide)).mono ?_
  rintro e w' ⟨rfl, hp⟩
  rw [e1, e2] at *
  rw [e3]
  exact ⟨rfl, hp⟩

theorem say_later {w : World} {n : Later w} (x : Int) : Calls Try.prog 17 #[.int .i64 x] (lat w n) fun e w'' => e = .returned (.agg #[.bool true, .int .i64 x]) ∧ ∃ m : Later w, w'' = lat w m := later_of (say_any x _)
theorem silent_later {w : World} {n : Later w} : Calls Try.prog 18 #[] (lat w n) fun e w'' => e = .returned (.agg #[.bool false, .int .i64 77]) ∧ ∃ m : Later w, w'' = lat w m := later_of (silent_any _)
theorem ages_later {w : World} {n : Later w} (b : Nat) (s : Vr) (hv : w.heap[b]? = some (vb s)) : Calls Try.prog 12 #[.pointer (some ⟨b, 0, none⟩)] (lat w n) fun e w'' => e = .returned (.agg #[.int .i64 s.a0, .int .i64 s.a1, .int .i64 s.a2]) ∧ ∃ m : Later w, w'' = lat w m :=
  later_of (ages_any b s _ (lat_heap hv n))
theorem splits_later {w : World} {n : Later w} (b : Nat) (s : Vr) (hv : w.heap[b]? = some (vb s)) : Calls Try.prog 13 #[.pointer (some ⟨b, 0, none⟩)] (lat w n) fun e w'' => e = .returned (.int .i64 s.sp) ∧ ∃ m : Later w, w'' = lat w m :=
  later_of ((splits_any b s _ (lat_heap hv n)).mono fun _ _ ⟨h, e⟩ => ⟨h, e ▸ Below.refl _ _⟩)

theorem ages3 {w : World} {n : Later w} (b : Nat) (hv : w.heap[b]? = some (vb s3)) : Calls Try.prog 12 #[.pointer (some ⟨b, 0, none⟩)] (lat w n) fun e w'' => e = .returned (.agg #[.int .i64 1, .int .i64 0, .int .i64 0]) ∧ ∃ m : Later w, w'' = lat w m := ages_later b s3 hv
theorem splits3 {w : World} {n : Later w} (b : Nat) (hv : w.heap[b]? = some (vb s3)) : Calls Try.prog 13 #[.pointer (some ⟨b, 0, none⟩)] (lat w n) fun e w'' => e = .returned (.int .i64 1) ∧ ∃ m : Later w, w'' = lat w m := splits_later b s3 hv
attribute [local go_sem] Oper.semAt_some

set_option maxRecDepth 100000 in
set_option maxHeartbeats 2000000 in
theorem awake_any (w : World) : Calls Try.prog 11 #[] w fun e w' => e = .returned (.bool true) ∧ Below w.heap.size w w' := by
  go_enter Try.func11, Try.ntmps11
  go_wp2_with fail
  refine (new_yes 2 10 _ (by decide) (by decide) (by decide) (by decide)).mono ?_
  rintro e w1 ⟨rfl, hw1⟩
  have hv1 : w1.heap[w.heap.size]? = some (vb s0) := by rw [hw1]; exact heap_alloc_new w _
  have hb1 : Below w.heap.size w w1 := by rw [hw1]; go_grown
  replace hw1 := hid hw1
  go_wp2_with fail
  refine (new_no 65535 0 _ (by decide)).mono ?_
  rintro e w1' ⟨rfl, hw1'⟩
  rw [hw1']
  clear hw1' w1'
  replace hv1 := hid hv1
  replace hb1 := hid hb1
  go_wp2_with fail
  refine (silent_any _).mono ?_
  rintro e w2 ⟨rfl, hb⟩
  have hv2 := hid (carry_b hb hv1.out)
  have hb2 := hid (hb1.out.trans (hb.mono hb1.out.size))
  have hz2 := hid hb.size
  clear hb hv1 hb1
  go_wp2_with fail
  refine (silent_any _).mono ?_
  rintro e w3 ⟨rfl, hb⟩
  have hv3 := hid (carry_b hb hv2.out)
  have hb3 := hid (hb2.out.trans (hb.mono hb2.out.size))
  have hz3 := hid hb.size
  clear hb hv2 hb2
  go_wp2_with fail
  refine (silent_any _).mono ?_
  rintro e w4 ⟨rfl, hb⟩
  have hv4 := hid (carry_b hb hv3.out)
  have hb4 := hid (hb3.out.trans (hb.mono hb3.out.size))
  have hz4 := hid hb.size
  clear hb hv3 hb3
  go_wp2_with fail
  refine (tick1 w.heap.size w4 hv4.out).mono ?_
  rintro e w5 ⟨rfl, hp⟩
  have hv5 := hid hp.at_
  have hb5 := hid (hb4.out.trans ((hp.mono hb4.out.size).below (Nat.le_refl _)))
  clear hp hv4 hb4
  have rane : Hid (w5.heap.size ≠ w.heap.size) := hid (by have := heap_lt hv5.out; omega)
  go_wp2_with fail
  refine (say_any 6 _).mono ?_
  rintro e w6 ⟨rfl, hb⟩
  have hv6 := hid (carry_b hb (carry_a hv5.out))
  have ra6 := hid (carry_b hb (heap_alloc_new w5 _))
  have hb6 := hid (((hb5.out.alloc hb5.out.size _)).trans (hb.mono (by simp; have := hb5.out.size; omega)))
  have hz6 := hid hb.size
  clear hb hv5 hb5
  go_wp2_with fail
  refine (say_any 9 _).mono ?_
  rintro e w7 ⟨rfl, hb⟩
  have hv7 := hid (carry_b hb hv6.out)
  have ra7 := hid (carry_b hb ra6.out)
  have hb7 := hid (hb6.out.trans (hb.mono hb6.out.size))
  have hz7 := hid hb.size
  clear hb hv6 ra6 hb6
  go_wp2_with fail
  refine (silent_any _).mono ?_
  rintro e w8 ⟨rfl, hb⟩
  have hv8 := hid (carry_b hb hv7.out)
  have ra8 := hid (carry_b hb ra7.out)
  have hb8 := hid (hb7.out.trans (hb.mono hb7.out.size))
  have hz8 := hid hb.size
  clear hb hv7 ra7 hb7
  go_wp2_with fail
  refine (tick2 w.heap.size w8 hv8.out).mono ?_
  rintro e w9 ⟨rfl, hp⟩
  have hv9 := hid hp.at_
  have hb9 := hid (hb8.out.trans ((hp.mono hb8.out.size).below (Nat.le_refl _)))
  have ra9 := hid (carry_p hp ra8.out rane.out)
  clear hp hv8 ra8 hb8
  have rbne : Hid (w9.heap.size ≠ w.heap.size) := hid (by have := heap_lt hv9.out; omega)
  go_wp2_with fail
  refine (silent_any _).mono ?_
  rintro e w10 ⟨rfl, hb⟩
  have hv10 := hid (carry_b hb (carry_a hv9.out))
  have ra10 := hid (carry_b hb (carry_a ra9.out))
  have rb10 := hid (carry_b hb (heap_alloc_new w9 _))
  have hb10 := hid (((hb9.out.alloc hb9.out.size _)).trans (hb.mono (by simp; have := hb9.out.size; omega)))
  have hz10 := hid hb.size
  clear hb hv9 ra9 hb9
  go_wp2_with fail
  refine (say_any (-8) _).mono ?_
  rintro e w11 ⟨rfl, hb⟩
  have hv11 := hid (carry_b hb hv10.out)
  have ra11 := hid (carry_b hb ra10.out)
  have rb11 := hid (carry_b hb rb10.out)
  have hb11 := hid (hb10.out.trans (hb.mono hb10.out.size))
  have hz11 := hid hb.size
  clear hb hv10 ra10 rb10 hb10
  go_wp2_with fail
  refine (say_any 100 _).mono ?_
  rintro e w12 ⟨rfl, hb⟩
  have hv12 := hid (carry_b hb hv11.out)
  have ra12 := hid (carry_b hb ra11.out)
  have rb12 := hid (carry_b hb rb11.out)
  have hb12 := hid (hb11.out.trans (hb.mono hb11.out.size))
  have hz12 := hid hb.size
  clear hb hv11 ra11 rb11 hb11
  go_wp2_with fail
  refine (tick3 w.heap.size w12 hv12.out).mono ?_
  rintro e w13 ⟨rfl, hp⟩
  have hv13 := hid hp.at_
  have hb13 := hid (hb12.out.trans ((hp.mono hb12.out.size).below (Nat.le_refl _)))
  have ra13 := hid (carry_p hp ra12.out rane.out)
  have rb13 := hid (carry_p hp rb12.out rbne.out)
  clear hp hv12 ra12 rb12 hb12
  have rcne : Hid (w13.heap.size ≠ w.heap.size) := hid (by have := heap_lt hv13.out; omega)
  go_wp2_with fail
  have hvF := hid (carry_a (o' := rb true 6) hv13.out)
  obtain ⟨a0, a1⟩ := rb_cells (carry_a (o' := rb true 6) ra13.out)
  obtain ⟨b0, b1⟩ := rb_cells (carry_a (o' := rb true 6) rb13.out)
  obtain ⟨c0, c1⟩ := rb_cells (heap_alloc_new w13 (rb true 6))
  replace a0 := lat_fact a0
  replace a1 := lat_fact a1
  replace b0 := lat_fact b0
  replace b1 := lat_fact b1
  replace c0 := lat_fact c0
  replace c1 := lat_fact c1
  have hF := hid (hb13.out.alloc hb13.out.size (rb true 6))
  have hsF := hid (show w.heap.size ≤ (w13.alloc (rb true 6)).heap.size from hF.out.size)
  have q36 := eq36
  have q27 := eq27
  generalize w13.alloc (rb true 6) = W at *
  refine wp_region_later_lit (by kernel_rfl) (by kernel_rfl) ?_
  repeat (go_big_quiet_step (first | exact say_later _ | exact ages3 _ hvF.out | exact splits3 _ hvF.out))
  refine wpQuiet_nil ?_
  rintro _ ⟨nq, rfl⟩
  go_wp2
  go_ret
  exact ⟨rfl, hF.out.trans ((lat_below W nq).mono hsF.out)⟩
end Go.Proofs.Ythhmamdgpfgpfaa
