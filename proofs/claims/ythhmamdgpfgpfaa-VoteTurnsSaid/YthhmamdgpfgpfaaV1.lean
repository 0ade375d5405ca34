/- A new voter, what a unit says, the comparison of two numbers: what the calls leave behind. -/
import Derived.Test.YthhmamdgpfgpfaaProg
import Derived.Below
import Derived.Deep.Draws
import Derived.Deep.AppendLies
import Derived.OwnWalk
import Derived.Laws.BytesArg
import Derived.Laws.MakeOwn
import Derived.Laws.OwnMore
import Derived.Deep.OwnRows
import Derived.Tactics
import Derived.Lib.ConvBytes
import Derived.Laws.Slices
import Derived.WalkKit
import Derived.KernelRfl
import Derived.RowKit3
import Derived.Deep.LoopGhost
import Derived.Deep.QuietTactic
import Derived.BigQuiet
import Derived.WideLaws
import Derived.Deep.DeepCutAuto
import Derived.Deep.CutBlock
import Derived.Deep.RegionHeld3
import Derived.Laws.Rows
import Derived.Lib.AppendStr
import Derived.ArgAppend
import Derived.Laws.IdiomCopy
import Derived.OrdersHeld
import Derived.Laws.BitsLemmas
import Derived.WalkSpells
import Derived.WalkLawsBesides
import Derived.Handy
namespace Go.Proofs.Ythhmamdgpfgpfaa
open Go.RowKit

theorem hid {p : Prop} (h : p) : Hid p := h

/-- Between two worlds, of what lies below B one block alone has turned; it holds o now. -/
structure Put (B : Nat) (w w' : World) (g : Nat) (o : Obj) : Prop where
  os : w'.os = w.os
  tape : w'.tape = w.tape
  output : w'.output = w.output
  size : w.heap.size ≤ w'.heap.size
  block : ∀ k, k < B → k ≠ g → w'.heap[k]? = w.heap[k]?
  at_ : w'.heap[g]? = some o

theorem Put.mono {B C : Nat} {w w' : World} {g : Nat} {o : Obj} (h : Put B w w' g o) (hc : C ≤ B) : Put C w w' g o :=
  ⟨h.os, h.tape, h.output, h.size, fun k hk hn => h.block k (by omega) hn, h.at_⟩
theorem Put.below {B : Nat} {w w' : World} {g : Nat} {o : Obj} (h : Put B w w' g o) (hg : B ≤ g) : Below B w w' :=
  ⟨h.os, h.tape, h.output, h.size, fun k hk => h.block k hk (by omega)⟩
theorem Put.trans {B : Nat} {a b c : World} {g : Nat} {o o' : Obj} (h : Put B a b g o) (k : Put B b c g o') : Put B a c g o' :=
  ⟨k.os.trans h.os, k.tape.trans h.tape, k.output.trans h.output, Nat.le_trans h.size k.size, fun i hi hn => (k.block i hi hn).trans (h.block i hi hn), k.at_⟩
theorem Put.refl (B : Nat) {w : World} {g : Nat} {o : Obj} (h : w.heap[g]? = some o) : Put B w w g o := ⟨rfl, rfl, rfl, Nat.le_refl _, fun _ _ _ => rfl, h⟩
theorem Put.of_below {B : Nat} {w w' : World} {g : Nat} {o : Obj} (h : w.heap[g]? = some o) (hb : Below B w w') (hg : g < B) : Put B w w' g o :=
  ⟨hb.os, hb.tape, hb.output, hb.size, fun k hk _ => hb.block k hk, (hb.block g hg).trans h⟩
theorem Put.later {B : Nat} {a b c : World} {g : Nat} {o : Obj} (h : Put B a b g o) (k : Below B b c) (hg : g < B) : Put B a c g o := h.trans (Put.of_below h.at_ k hg)
theorem Put.first {B : Nat} {a b c : World} {g : Nat} {o : Obj} (k : Below B a b) (h : Put B b c g o) : Put B a c g o :=
  ⟨h.os.trans k.os, h.tape.trans k.tape, h.output.trans k.output, Nat.le_trans k.size h.size, fun i hi hn => (h.block i hi hn).trans (k.block i hi), h.at_⟩
theorem Put.set (B : Nat) {w : World} {g i : Nat} {cs : Array Value} {t : TypeId} {v : Value} (hg : w.heap[g]? = some (.cells cs t (0, 0))) :
    Put B w (w.setCell ⟨g, i, none⟩ v) g (.cells (cs.setIfInBounds i v) t (0, 0)) :=
  ⟨rfl, rfl, rfl, by simp, fun k _ hn => heap_setCell_other w ⟨g, i, none⟩ k v hn, by rw [heap_setCell_same w g i cs t v hg]⟩
theorem Put.lt {B : Nat} {w w' : World} {g : Nat} {o : Obj} (h : Put B w w' g o) : g < w'.heap.size := (Array.getElem?_eq_some_iff.1 h.at_).1
theorem Put.cell {B : Nat} {w w' : World} {g : Nat} {cs : Array Value} {t : TypeId} (h : Put B w w' g (.cells cs t (0, 0))) (i : Nat) : w'.cell? ⟨g, i, none⟩ = cs[i]? := by
  simp [World.cell?, h.at_]
theorem Put.frozen {B : Nat} {w w' : World} {g : Nat} {cs : Array Value} {t : TypeId} (h : Put B w w' g (.cells cs t (0, 0))) (i : Nat) : w'.frozen? ⟨g, i, none⟩ = false := by
  simp [World.frozen?, h.at_]
theorem Put.other {B : Nat} {w w' : World} {g : Nat} {o : Obj} (h : Put B w w' g o) {b i : Nat} (hb : b < B) (hn : b ≠ g) : w'.cell? ⟨b, i, none⟩ = w.cell? ⟨b, i, none⟩ ∧ w'.frozen? ⟨b, i, none⟩ = w.frozen? ⟨b, i, none⟩ :=
  ⟨World.cell?_of_block (h.block b hb hn), World.frozen?_of_block (h.block b hb hn)⟩

def imin (x y : Int) : Int := if y < x then y else x
def imax (x y : Int) : Int := if x < y then y else x
@[go_sem] theorem min_int2 (k k' : IntKind) (x y : Int) (ats : Array TypeId) (ty : TypeId) : Builtin.min_ ats ty #[.int k x, .int k' y] = pure (.int k (imin x y)) := by
  simp only [Builtin.min_, List.foldlM_cons, List.foldlM_nil, Builtin.min2, imin, bind_pure]
@[go_sem] theorem max_int2 (k k' : IntKind) (x y : Int) (ats : Array TypeId) (ty : TypeId) : Builtin.max_ ats ty #[.int k x, .int k' y] = pure (.int k (imax x y)) := by
  simp only [Builtin.max_, List.foldlM_cons, List.foldlM_nil, Builtin.max2, imax, bind_pure, gt_iff_lt]

set_option maxHeartbeats 400000 in
theorem new_yes (stale split : Int) (w : World) (h0 : 0 ≤ stale) (h1 : stale < 65535) (h2 : 0 ≤ split) (h3 : split < 9223372036854775808) :
    Calls Try.prog 9 #[.int .i64 stale, .int .i64 split] w fun e w' =>
      e = .returned (.tuple #[.pointer (some ⟨w.heap.size, 0, none⟩), .int .i64 0]) ∧ w' = w.alloc (.cells #[.int .i64 stale, .int .u64 split, .int .i64 0, .int .i64 0, .int .i64 0, .int .i64 65535, .int .i64 65535, .int .i64 65535, .int .i64 0] 54) := by
  go_enter Try.func9, Try.ntmps9
  go_wp2
  go_ret2
  exact ⟨rfl, rfl⟩

set_option maxHeartbeats 400000 in
theorem new_no (stale split : Int) (w : World) (h : stale < 0 ∨ 65535 ≤ stale ∨ split < 0) :
    Calls Try.prog 9 #[.int .i64 stale, .int .i64 split] w fun e w' => e = .returned (.tuple #[.pointer none, .int .i64 1]) ∧ w' = w := by
  go_enter Try.func9, Try.ntmps9
  by_cases h1 : stale < 0
  · go_wp2
    go_ret2
    exact ⟨rfl, rfl⟩
  · by_cases h2 : 65535 ≤ stale
    · go_wp2
      go_ret2
      exact ⟨rfl, rfl⟩
    · have h3 : split < 0 := by omega
      go_wp2
      go_ret2
      exact ⟨rfl, rfl⟩

theorem say_any (x : Int) (w : World) :
    Calls Try.prog 17 #[.int .i64 x] w fun e w' => e = .returned (.agg #[.bool true, .int .i64 x]) ∧ Below w.heap.size w w' := by
  go_enter Try.func17, Try.ntmps17
  go_wp2
  exact bodyPost_ret (v := .agg #[.bool true, .int .i64 x]) (by simp [results, Try.results17, go_sem]) rfl ⟨rfl, (Below.refl _ w).alloc (Nat.le_refl _) _⟩

theorem silent_any (w : World) :
    Calls Try.prog 18 #[] w fun e w' => e = .returned (.agg #[.bool false, .int .i64 77]) ∧ Below w.heap.size w w' := by
  go_enter Try.func18, Try.ntmps18
  go_wp2
  exact bodyPost_ret (v := .agg #[.bool false, .int .i64 77]) (by simp [results, Try.results18, go_sem]) rfl ⟨rfl, (Below.refl _ w).alloc (Nat.le_refl _) _⟩

theorem isNaN_any (x : Int) (w : World) : Calls Try.prog 50 #[.int .i64 x] w fun e w' => e = .returned (.bool false) ∧ w' = w := by
  go_enter Try.func50, Try.ntmps50
  go_wp2
  go_ret
  simp

theorem less_any (x y : Int) (w : World) : Calls Try.prog 35 #[.int .i64 x, .int .i64 y] w fun e w' => e = .returned (.bool (decide (x < y))) ∧ w' = w := by
  go_enter Try.func35, Try.ntmps35
  go_wp2_with (first | (refine (isNaN_any _ _).mono ?_; rintro e w1 ⟨rfl, rfl⟩))
  go_ret
  simp
end Go.Proofs.Ythhmamdgpfgpfaa
