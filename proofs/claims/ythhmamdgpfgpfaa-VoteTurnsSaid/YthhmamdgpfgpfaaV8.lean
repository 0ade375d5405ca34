/- Ticks that came in as a slice. -/
import Derived.Test.YthhmamdgpfgpfaaV7
namespace Go.Proofs.Ythhmamdgpfgpfaa
open Go.RowKit

/-- What three units say in a tick. -/
structure Tk where
  r0 : Rd
  r1 : Rd
  r2 : Rd
def Tk.wf (t : Tk) : Prop := t.r0.wf ∧ t.r1.wf ∧ t.r2.wf
/-- What a slice's address leads to: ticks. -/
def Tks (w : World) (A : Option Addr) (ts : List Tk) : Prop :=
  ∀ (k : Nat) (t : Tk), ts[k]? = some t → ∃ b off, A = some ⟨b, off, none⟩ ∧ b < w.heap.size ∧ t.wf ∧
    w.cell? ⟨b, off + k * 6, none⟩ = some (.bool t.r0.ok) ∧ w.cell? ⟨b, off + k * 6 + 1, none⟩ = some (.int .i64 t.r0.x) ∧
    w.cell? ⟨b, off + k * 6 + 2, none⟩ = some (.bool t.r1.ok) ∧ w.cell? ⟨b, off + k * 6 + 3, none⟩ = some (.int .i64 t.r1.x) ∧
    w.cell? ⟨b, off + k * 6 + 4, none⟩ = some (.bool t.r2.ok) ∧ w.cell? ⟨b, off + k * 6 + 5, none⟩ = some (.int .i64 t.r2.x)
theorem Tks.below {w w1 : World} {A : Option Addr} {ts : List Tk} (h : Tks w A ts) (hb : Below w.heap.size w w1) : Tks w1 A ts := fun k t hk => by
  obtain ⟨b, off, rfl, h1, h2, h3, h4, h5, h6, h7, h8⟩ := h k t hk
  refine ⟨b, off, rfl, Nat.lt_of_lt_of_le h1 hb.size, h2, ?_, ?_, ?_, ?_, ?_, ?_⟩ <;> (rw [hb.cell (by exact h1)]; assumption)

def gd (r : Rd) (lo hi : Int) : Bool := r.ok && wit r.x lo hi
def one (b : Bool) : Int := if b then 1 else 0


theorem rb_fz {w : World} {b : Nat} {o : Bool} {x : Int} (h : w.heap[b]? = some (rb o x)) : w.frozen? ⟨b, 0, none⟩ = false ∧ w.frozen? ⟨b, 1, none⟩ = false := by
  simp [World.frozen?, h]
end Go.Proofs.Ythhmamdgpfgpfaa
