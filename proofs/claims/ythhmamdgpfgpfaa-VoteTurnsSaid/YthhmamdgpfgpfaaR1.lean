/- A slice of ticks that came in, opened. -/
import Derived.Test.YthhmamdgpfgpfaaR0
import Derived.Test.YthhmamdgpfgpfaaV8
import Derived.Deep.SlicePairs
namespace Go.Proofs.Ythhmamdgpfgpfaa
open Go.ChangeShapes Go.WideShapes Go.ChangeAt Go.RowKit Go.Deep

theorem plain_add (b off i : Nat) : (⟨b, off, none⟩ : Addr).add i = ⟨b, off + i, none⟩ := by unfold Addr.add; split <;> simp_all
section
variable {H : Type} {enc : TypeId × Value → H} {W : World} {sp : Nat → Bool} {held : Bool}
theorem open_ticks {m : Nat} {v : Value} {x : DataW H × List MemPlace} (h : DataW.trod enc Try.prog W 0 sp held m 22 [v] = some x) :
    ∃ A n c ts, v = .slice A n c ∧ ts.length = n ∧ n ≤ 9223372036854775807 ∧ Tks W A ts := by
  rcases open_slice Try.underlying22 h with ⟨hcs, _⟩ | ⟨a, len, cap, mm, n, D, Pl, hcs, hb, hl, hm, hmm, rfl, hx⟩
  · simp at hcs
    exact ⟨none, 0, 0, [], hcs, rfl, by omega, fun k t hk => by simp at hk⟩
  · simp at hcs
    have hlm : len ≤ mm := by rw [hmm]; split <;> omega
    have each : ∀ i, i < len → ∃ t : Tk, ∃ b off, a = ⟨b, off, none⟩ ∧ b < W.heap.size ∧ t.wf ∧
        W.cell? ⟨b, off + i * 6, none⟩ = some (.bool t.r0.ok) ∧ W.cell? ⟨b, off + i * 6 + 1, none⟩ = some (.int .i64 t.r0.x) ∧
        W.cell? ⟨b, off + i * 6 + 2, none⟩ = some (.bool t.r1.ok) ∧ W.cell? ⟨b, off + i * 6 + 3, none⟩ = some (.int .i64 t.r1.x) ∧
        W.cell? ⟨b, off + i * 6 + 4, none⟩ = some (.bool t.r2.ok) ∧ W.cell? ⟨b, off + i * 6 + 5, none⟩ = some (.int .i64 t.r2.x) := by
      intro i hi
      obtain ⟨cs', h1, h2⟩ := hx i (by omega)
      rw [cells38] at h1
      obtain ⟨_, hlen, hcell⟩ := World.cells?_some h1
      obtain ⟨r0, r1, r2, rfl, w0, w1, w2⟩ := open_rds h2
      have e0 := hcell 0 (by omega)
      have e1 := hcell 1 (by omega)
      have e2 := hcell 2 (by omega)
      have e3 := hcell 3 (by omega)
      have e4 := hcell 4 (by omega)
      have e5 := hcell 5 (by omega)
      rw [add_add] at e0 e1 e2 e3 e4 e5
      obtain ⟨b, off, spot⟩ := a
      have hspot : spot = none := by
        obtain ⟨cs0, g1, g2⟩ := hx 0 (by omega)
        rw [cells38] at g1
        obtain ⟨_, glen, gcell⟩ := World.cells?_some g1
        obtain ⟨q0, q1, q2, rfl, _, _, _⟩ := open_rds g2
        have f0 := gcell 0 (by omega)
        exact World.cell?_spot (show W.cell? (⟨b, off, spot⟩ : Addr) = some (.bool q0.ok) from by simpa [Addr.add] using f0)
      subst hspot
      have hbl : b < W.heap.size := by
        have := World.block_lt_of_cell? W _ e0
        rw [plain_add] at this
        exact this
      rw [plain_add] at e0 e1 e2 e3 e4 e5
      refine ⟨⟨r0, r1, r2⟩, b, off, rfl, hbl, ⟨w0, w1, w2⟩, ?_, ?_, ?_, ?_, ?_, ?_⟩
      · exact e0
      · rw [Nat.add_assoc]; exact e1
      · rw [Nat.add_assoc]; exact e2
      · rw [Nat.add_assoc]; exact e3
      · rw [Nat.add_assoc]; exact e4
      · rw [Nat.add_assoc]; exact e5
    have : ∃ q : Nat → Tk, ∀ i, i < len → ∃ b off, a = ⟨b, off, none⟩ ∧ b < W.heap.size ∧ (q i).wf ∧
        W.cell? ⟨b, off + i * 6, none⟩ = some (.bool (q i).r0.ok) ∧ W.cell? ⟨b, off + i * 6 + 1, none⟩ = some (.int .i64 (q i).r0.x) ∧
        W.cell? ⟨b, off + i * 6 + 2, none⟩ = some (.bool (q i).r1.ok) ∧ W.cell? ⟨b, off + i * 6 + 3, none⟩ = some (.int .i64 (q i).r1.x) ∧
        W.cell? ⟨b, off + i * 6 + 4, none⟩ = some (.bool (q i).r2.ok) ∧ W.cell? ⟨b, off + i * 6 + 5, none⟩ = some (.int .i64 (q i).r2.x) := by
      refine ⟨fun i => if h : i < len then Classical.choose (each i h) else ⟨⟨false, 0⟩, ⟨false, 0⟩, ⟨false, 0⟩⟩, fun i hi => ?_⟩
      simp only [dif_pos hi]
      exact Classical.choose_spec (each i hi)
    obtain ⟨q, hq⟩ := this
    refine ⟨some a, len, cap, (List.range len).map q, hcs, by simp, by unfold maxLen at hm; omega, fun k t hk => ?_⟩
    have hkl : k < len := by
      have := (List.getElem?_eq_some_iff.1 hk).1
      simpa using this
    have ht : t = q k := by
      rw [List.getElem?_map, List.getElem?_range hkl] at hk
      simpa using hk.symm
    subst ht
    obtain ⟨b, off, rfl, hr⟩ := hq k hkl
    exact ⟨b, off, rfl, hr⟩
end
end Go.Proofs.Ythhmamdgpfgpfaa
