/- Later worlds, comparisons of readings and ages, and the chapter's examples. -/
import Derived.Test.YthhmamdgpfgpfaaV4
import Derived.Laws.StructEq
import Derived.ChangeKeysEq
namespace Go.Proofs.Ythhmamdgpfgpfaa
open Go.RowKit

/-- A later world of w. -/
structure Later (w : World) where
  world : World
  below : Below w.heap.size w world
instance (w : World) : Nonempty (Later w) := ⟨⟨w, Below.refl _ _⟩⟩
def lat (w : World) (n : Later w) : World := n.world
theorem lat_below (w : World) (n : Later w) : Below w.heap.size w (lat w n) := n.below
@[go_sem] theorem lat_cell (w : World) (n : Later w) (b o : Nat) (h : b < w.heap.size) : (lat w n).cell? ⟨b, o, none⟩ = w.cell? ⟨b, o, none⟩ := n.below.cell (p := ⟨b, o, none⟩) h
@[go_sem] theorem lat_frozen (w : World) (n : Later w) (b o : Nat) (h : b < w.heap.size) : (lat w n).frozen? ⟨b, o, none⟩ = w.frozen? ⟨b, o, none⟩ := n.below.frozen (p := ⟨b, o, none⟩) h
theorem lat_fact {w : World} {a : Addr} {v : Value} (h : w.cell? a = some v) (n : Later w) : (lat w n).cell? a = some v := (n.below.cell (World.block_lt_of_cell? w a h)).trans h
theorem lat_heap {w : World} {b : Nat} {o : Obj} (h : w.heap[b]? = some o) (n : Later w) : (lat w n).heap[b]? = some o := (n.below.block b (Array.getElem?_eq_some_iff.1 h).1).trans h
theorem wp_region_later_lit {P : Program} {id : Nat} {Q : Exit → Act → World → Prop} {a : Act} {w : World} {l : List Oper} (hm : P.follows .mixedOrders = true) (hB : Region.lexB .any l.toArray = true)
    (h : wpQuiet P l.toArray (fun w' => ∃ n : Later w, w' = lat w n) (fun a' => ∀ w', (∃ n : Later w, w' = lat w n) → Q .normal a' w') l a) : (Code.region id l.toArray true).wp P Q a w :=
  wp_region_quiet (C := fun w' => ∃ n : Later w, w' = lat w n) hm hB ⟨⟨{ w with drawn := w.drawn + 1 }, ⟨rfl, rfl, rfl, Nat.le_refl _, fun _ _ => rfl⟩⟩, rfl⟩ (by simpa using h)
theorem later_of {P : Program} {f : FuncId} {args : Array Value} {w : World} {n : Later w} {v : Value}
    (h : Calls P f args (lat w n) fun e w' => e = .returned v ∧ Below (lat w n).heap.size (lat w n) w') : Calls P f args (lat w n) fun e w'' => e = .returned v ∧ ∃ m : Later w, w'' = lat w m :=
  h.mono fun _ w' ⟨he, hb⟩ => ⟨he, ⟨⟨w', n.below.trans (hb.mono n.below.size)⟩, rfl⟩⟩

section
variable {P : Program} {d : Nat} {xs ys : Array Value} {f : Field} {fs : List Field} {a b : Value} {r s : Bool} {w : World} {e k i : Nat} {is : List Nat}
theorem flds_last (hn : (f.name == "_") = false) (ha : (part f.type xs f.offset).run P w = .ok a w) (hb : (part f.type ys f.offset).run P w = .ok b w) (he : (Op.equalIn d f.type a b).run P w = .ok r w) : (Op.eqFields d xs ys [f]).run P w = .ok r w := by
  have hn' : f.name ≠ "_" := by simpa using hn
  simp only [Op.eqFields, if_pos hn', Sem.run_bind, ha, hb, he, Result.andThen_ok]
  cases r <;> simp
theorem flds_cons (hn : (f.name == "_") = false) (ha : (part f.type xs f.offset).run P w = .ok a w) (hb : (part f.type ys f.offset).run P w = .ok b w) (he : (Op.equalIn d f.type a b).run P w = .ok r w) (hr : (Op.eqFields d xs ys fs).run P w = .ok s w) : (Op.eqFields d xs ys (f :: fs)).run P w = .ok (r && s) w := by
  have hn' : f.name ≠ "_" := by simpa using hn
  rw [Op.eqFields]
  simp only [if_pos hn', Sem.run_bind, ha, hb, he, Result.andThen_ok]
  cases r
  · simp
  · simpa using hr
theorem struct_eq {t : TypeId} {fs : Array Field} (hu : P.underlying t = some (.struct fs)) (hp : P.stoodInHeld t = false) (h : (Op.eqFields d xs ys fs.toList).run P w = .ok r w) : (Op.equalIn (d + 1) t (.agg xs) (.agg ys)).run P w = .ok r w := by
  have hf : P.fieldsOf t = fs := by simp [Program.fieldsOf, hu]
  rw [run_equalIn_struct (P := P) w d t xs ys (by rw [hf]; exact hu) hp, hf]
  exact h
theorem items_nil : (Op.eqItems d e k xs ys []).run P w = .ok true w := by simp [Op.eqItems]
theorem items_cons (ha : (part e xs (i * k)).run P w = .ok a w) (hb : (part e ys (i * k)).run P w = .ok b w) (he : (Op.equalIn d e a b).run P w = .ok r w) (hr : (Op.eqItems d e k xs ys is).run P w = .ok s w) : (Op.eqItems d e k xs ys (i :: is)).run P w = .ok (r && s) w := by
  rw [Op.eqItems]
  simp only [Sem.run_bind, ha, hb, he, Result.andThen_ok]
  cases r
  · simp
  · simpa using hr
end
theorem eq36 (d : Nat) (w : World) (x0 y0 : Bool) (x1 y1 : Int) :
    (Op.equalIn (d + 2) 36 (.agg #[.bool x0, .int .i64 x1]) (.agg #[.bool y0, .int .i64 y1])).run Try.prog w = .ok (x0 == y0 && (x1 == y1)) w := by
  refine struct_eq Try.underlying36 (by kernel_rfl) ?_
  refine flds_cons (by rfl) (by go_simp; rfl) (by go_simp; rfl) (by go_simp) ?_
  exact flds_last (by rfl) (by go_simp; rfl) (by go_simp; rfl) (by go_simp)
theorem eq27 (d : Nat) (w : World) (x0 x1 x2 y0 y1 y2 : Int) :
    (Op.equalIn (d + 2) 27 (.agg #[.int .i64 x0, .int .i64 x1, .int .i64 x2]) (.agg #[.int .i64 y0, .int .i64 y1, .int .i64 y2])).run Try.prog w = .ok (x0 == y0 && (x1 == y1 && (x2 == y2 && true))) w := by
  obtain ⟨i3, hi3, _⟩ := info3
  rw [run_equalIn_array (w := w) (d + 1) (n := 3) (e := 3) _ _ Try.underlying27 hi3]
  have hc : Try.prog.cellsOf 3 = 1 := by kernel_rfl
  rw [hc]
  refine items_cons (by go_simp; rfl) (by go_simp; rfl) (by go_simp) ?_
  refine items_cons (by go_simp; rfl) (by go_simp; rfl) (by go_simp) ?_
  refine items_cons (by go_simp; rfl) (by go_simp; rfl) (by go_simp) ?_
  exact items_nil
end Go.Proofs.Ythhmamdgpfgpfaa
