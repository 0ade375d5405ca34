/- What later worlds are (a world in which nothing that was there has turned), and a region whose order is open in which callees make memory. -/
import Derived.Test.YtigcbldbolablaaProg
import Derived.Below
import Derived.Deep.Draws
import Derived.Deep.AppendLies
import Derived.OwnWalk
import Derived.Laws.BytesArg
import Derived.Laws.MakeOwn
import Derived.Laws.OwnMore
import Derived.Deep.OwnRows
import Derived.Tactics
import Derived.Lib.ConvBytes
import Derived.Laws.Slices
import Derived.WalkKit
import Derived.KernelRfl
import Derived.RowKit3
import Derived.Deep.LoopGhost
import Derived.Deep.QuietTactic
import Derived.BigQuiet
import Derived.WideLaws
import Derived.Deep.DeepCutAuto
import Derived.Deep.CutBlock
import Derived.Deep.RegionHeld3
import Derived.Laws.Rows
import Derived.Lib.AppendStr
import Derived.ArgAppend
import Derived.Laws.IdiomCopy
import Derived.OrdersHeld
import Derived.Laws.BitsLemmas
import Derived.WalkSpells
import Derived.WalkLawsBesides
namespace Go.Proofs.Ytigcbldbolablaa
open Go.RowKit

theorem bcell {W w1 : World} (hb : Below W.heap.size W w1) : (∀ b o, b < W.heap.size → w1.cell? ⟨b, o, none⟩ = W.cell? ⟨b, o, none⟩) ∧ (∀ b o, b < W.heap.size → w1.frozen? ⟨b, o, none⟩ = W.frozen? ⟨b, o, none⟩) :=
  ⟨fun b o h => hb.cell (p := ⟨b, o, none⟩) h, fun b o h => hb.frozen (p := ⟨b, o, none⟩) h⟩

theorem hid {p : Prop} (h : p) : Hid p := h
/-- A later world of w. -/
structure Later (w : World) where
  world : World
  below : Below w.heap.size w world
instance (w : World) : Nonempty (Later w) := ⟨⟨w, Below.refl _ _⟩⟩
def lat (w : World) (n : Later w) : World := n.world
theorem lat_below (w : World) (n : Later w) : Below w.heap.size w (lat w n) := n.below
@[go_sem] theorem lat_cell (w : World) (n : Later w) (b o : Nat) (h : b < w.heap.size) : (lat w n).cell? ⟨b, o, none⟩ = w.cell? ⟨b, o, none⟩ := n.below.cell (p := ⟨b, o, none⟩) h
@[go_sem] theorem lat_frozen (w : World) (n : Later w) (b o : Nat) (h : b < w.heap.size) : (lat w n).frozen? ⟨b, o, none⟩ = w.frozen? ⟨b, o, none⟩ := n.below.frozen (p := ⟨b, o, none⟩) h

theorem lat_fact {w : World} {a : Addr} {v : Value} (h : w.cell? a = some v) (n : Later w) : (lat w n).cell? a = some v := (n.below.cell (World.block_lt_of_cell? w a h)).trans h

theorem wp_region_later_lit {P : Program} {id : Nat} {Q : Exit → Act → World → Prop} {a : Act} {w : World} {l : List Oper} (hm : P.follows .mixedOrders = true) (hB : Region.lexB .any l.toArray = true)
    (h : wpQuiet P l.toArray (fun w' => ∃ n : Later w, w' = lat w n) (fun a' => ∀ w', (∃ n : Later w, w' = lat w n) → Q .normal a' w') l a) : (Code.region id l.toArray true).wp P Q a w :=
  wp_region_quiet (C := fun w' => ∃ n : Later w, w' = lat w n) hm hB ⟨⟨{ w with drawn := w.drawn + 1 }, ⟨rfl, rfl, rfl, Nat.le_refl _, fun _ _ => rfl⟩⟩, rfl⟩ (by simpa using h)

theorem later_of {P : Program} {f : FuncId} {args : Array Value} {w : World} {n : Later w} {v : Value}
    (h : Calls P f args (lat w n) fun e w' => e = .returned v ∧ Below (lat w n).heap.size (lat w n) w') : Calls P f args (lat w n) fun e w'' => e = .returned v ∧ ∃ m : Later w, w'' = lat w m :=
  h.mono fun _ w' ⟨he, hb⟩ => ⟨he, ⟨⟨w', n.below.trans (hb.mono n.below.size)⟩, rfl⟩⟩

theorem ret_bool {a b : Bool} (h : a = b) : Ending.returned (.bool a) = .returned (.bool b) := by rw [h]
theorem ret_int {k : IntKind} {a b : Int} (h : a = b) : Ending.returned (.int k a) = .returned (.int k b) := by rw [h]
theorem below_then {B : Nat} {w w1 w2 : World} (h : Below B w w1) (hB : B ≤ w1.heap.size) (k : Below w1.heap.size w1 w2) : Below B w w2 := h.trans (k.mono hB)

/-- A point. -/
structure Pt where
  x : Int
  y : Int
deriving DecidableEq
def z0 : Pt := ⟨0, 0⟩
def pv (p : Pt) : Value := .agg #[.int .i64 p.x, .int .i64 p.y]
/-- The point at a place of a list. -/
def pat (l : List Pt) (i : Int) : Pt := l.getD i.toNat z0
/-- What a slice's address leads to: the points of a list. -/
def Pts (w : World) (A : Option Addr) (l : List Pt) : Prop :=
  ∀ k : Nat, k < l.length → ∃ ad : Addr, A = some ad ∧ ad.block < w.heap.size ∧ w.cell? (ad.add (k * 2)) = some (.int .i64 (l.getD k z0).x) ∧ w.cell? ⟨(ad.add (k * 2)).block, (ad.add (k * 2)).off + 1, none⟩ = some (.int .i64 (l.getD k z0).y)
theorem add_blk (a : Addr) (i : Nat) : (a.add i).block = a.block := by unfold Addr.add; split <;> rfl
theorem Pts.below {w w1 : World} {A : Option Addr} {l : List Pt} (h : Pts w A l) (hb : Below w.heap.size w w1) : Pts w1 A l := fun k hk => by
  obtain ⟨ad, rfl, h1, h2, h3⟩ := h k hk
  refine ⟨ad, rfl, Nat.lt_of_lt_of_le h1 hb.size, ?_, ?_⟩
  · rw [hb.cell (p := ad.add (k * 2)) (by rw [add_blk]; exact h1)]; exact h2
  · rw [hb.cell (p := ⟨(ad.add (k * 2)).block, (ad.add (k * 2)).off + 1, none⟩) (by show (ad.add (k * 2)).block < _; rw [add_blk]; exact h1)]; exact h3
theorem Pts.at_ {w : World} {A : Option Addr} {l : List Pt} (h : Pts w A l) (i : Int) (h0 : 0 ≤ i) (h1 : i < l.length) :
    ∃ ad : Addr, A = some ad ∧ ad.block < w.heap.size ∧ w.cell? (ad.add (i.toNat * 2)) = some (.int .i64 (pat l i).x) ∧ w.cell? ⟨(ad.add (i.toNat * 2)).block, (ad.add (i.toNat * 2)).off + 1, none⟩ = some (.int .i64 (pat l i).y) :=
  h i.toNat (by omega)
def npt (l : List Pt) (i : Nat) : Pt := l.getD i z0
theorem pat_nat (l : List Pt) (i : Nat) : pat l (i : Int) = npt l i := by simp [pat, npt]
theorem Pts.nat {w : World} {ad : Addr} {l : List Pt} (h : Pts w (some ad) l) (i : Nat) (h1 : i < l.length) :
    w.cell? (ad.add (i * 2)) = some (.int .i64 (npt l i).x) ∧ w.cell? ⟨(ad.add (i * 2)).block, (ad.add (i * 2)).off + 1, none⟩ = some (.int .i64 (npt l i).y) := by
  obtain ⟨ad', e, _, h2, h3⟩ := h i h1
  cases e
  exact ⟨h2, h3⟩
theorem Pts.some_ {w : World} {A : Option Addr} {l : List Pt} (h : Pts w A l) (h1 : 0 < l.length) : ∃ ad : Addr, A = some ad ∧ ad.block < w.heap.size := by
  obtain ⟨ad, e, hb, _, _⟩ := h 0 h1
  exact ⟨ad, e, hb⟩
theorem Pts.nil (w : World) (A : Option Addr) : Pts w A [] := fun k hk => by simp at hk
end Go.Proofs.Ytigcbldbolablaa
