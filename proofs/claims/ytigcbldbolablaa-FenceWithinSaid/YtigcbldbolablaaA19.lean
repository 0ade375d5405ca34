/- A fence's bytes: put, points. -/
import Derived.Test.YtigcbldbolablaaA18
namespace Go.Proofs.Ytigcbldbolablaa
open Go.RowKit
set_option linter.unusedSimpArgs false

theorem info5 : ∃ i, Try.prog.info? 5 = some i ∧ i.zero = some (.int .u8 0) ∧ i.size = 1 ∧ i.bytes = 1 := by
  have h : (Try.prog.info? 5).map (fun i => (i.zero, i.size, i.bytes)) = some (some (.int .u8 0), 1, 1) := by kernel_rfl
  cases hi : Try.prog.info? 5 with
  | none => rw [hi] at h; simp at h
  | some i => rw [hi] at h; simp at h; exact ⟨i, rfl, h.1, h.2.1, h.2.2⟩

/-- A number's four bytes. -/
def fb (n : Int) : List Int := [n % 256, n / 256 % 256, n / 65536 % 256, n / 16777216 % 256]
abbrev b8 : Int → Value := Value.int .u8
theorem grown_trans {a b c : World} {row : Option Nat} (h : a.grownBy b row) (k : b.grownBy c row) : a.grownBy c row :=
  ⟨k.os.trans h.os, k.tape.trans h.tape, k.output.trans h.output, Nat.le_trans h.size k.size, fun i hi hn => (k.block i (Nat.lt_of_lt_of_le hi h.size) hn).trans (h.block i hi hn)⟩
/-- Bytes that were laid behind others: where they lie now is not told. -/
def Laid (base : Nat) (m : Nat) (xs : List Int) (w : World) (v : Value) (e : Ending) (w' : World) : Prop :=
  ∃ v', e = .returned v' ∧ w'.ownsRow base 5 1 v' m (xs.map b8) ∧ w.grownBy w' v.ownBlock

set_option maxRecDepth 100000 in
set_option maxHeartbeats 2000000 in
theorem put_any (base m : Nat) (v : Value) (xs : List Int) (n : Int) (w : World) (hown : w.ownsRow base 5 1 v m (xs.map b8)) (hm : m ≤ 4096) (hbase : base ≤ w.heap.size) :
    Calls Try.prog 60 #[v, .int .i64 n] w (Laid base (m + 4) (xs ++ fb n) w v) := by
  have HO := hid hown
  clear hown
  obtain ⟨i5, hi5, hz5, hs5, hb5⟩ := info5
  go_enter Try.func60, Try.ntmps60
  have hc1 : ∀ (j : Nat) (u : Value), [b8 (n % 256), b8 (n / 256 % 256), b8 (n / 65536 % 256), b8 (n / 16777216 % 256)][j]? = some u → (w.alloc (.cells #[.int .u8 (n % 256), .int .u8 (n / 256 % 256), .int .u8 (n / 65536 % 256), .int .u8 (n / 16777216 % 256)] 5)).cell? ((⟨w.heap.size, 0, none⟩ : Addr).add j) = some u := by
    intro j u hu
    rw [add_lit, Nat.zero_add, cell_new, ← hu]
    simp
  have hc2 : ∀ u ∈ [b8 (n % 256), b8 (n / 256 % 256), b8 (n / 65536 % 256), b8 (n / 16777216 % 256)], u.oneCell' = true := by
    intro u hu
    simp at hu
    rcases hu with rfl | rfl | rfl | rfl <;> rfl
  replace hc1 := hid hc1
  replace hc2 := hid hc2
  have hc3 : m + 4 ≤ maxLen := by unfold maxLen; omega
  have hc5 : ∀ o, base ≤ (w.alloc o).heap.size := fun o => by simp; omega
  replace hc3 := hid hc3
  replace hc5 := hid hc5
  go_wp2_with (at_builtin; refine wpList_append_own _ rfl _ _ 82 rfl base 5 i5 (.int .u8 0) 1 1 Try.underlying82 hi5 hz5 hs5 hb5 rfl (by decide) v m (xs.map b8) rfl (HO.out.alloc _) ⟨w.heap.size, 0, none⟩ 4 4 [b8 (n % 256), b8 (n / 256 % 256), b8 (n / 65536 % 256), b8 (n / 16777216 % 256)] rfl rfl hc1.out hc2.out hc3.out (by omega) (hc5.out _) ?_; intro v' w3 hown' hgrow3 hnil3)
  have HX := hid hown'
  have HG := hid (grown_trans (World.grownBy_alloc w _ v.ownBlock) hgrow3)
  clear hown' hgrow3 hnil3
  go_wp2
  go_ret
  refine ⟨_, rfl, ?_, HG.out⟩
  rw [List.map_append]
  exact HX.out
end Go.Proofs.Ytigcbldbolablaa
