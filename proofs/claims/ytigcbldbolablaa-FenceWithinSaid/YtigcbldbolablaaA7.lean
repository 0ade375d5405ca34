/- Whether a polygon is simple (where it has corners enough). -/
import Derived.Test.YtigcbldbolablaaA6
import Derived.RangeFuncNested
import Derived.Laws.StructEq
namespace Go.Proofs.Ytigcbldbolablaa
open Go.RowKit Go.Shelf

attribute [local go_sem] Oper.semAt_some

section
variable {P : Program} {d : Nat} {xs ys : Array Value} {f : Field} {fs : List Field} {a b : Value} {r s : Bool} {w : World}
theorem flds_last (hn : (f.name == "_") = false) (ha : (part f.type xs f.offset).run P w = .ok a w) (hb : (part f.type ys f.offset).run P w = .ok b w) (he : (Op.equalIn d f.type a b).run P w = .ok r w) : (Op.eqFields d xs ys [f]).run P w = .ok r w := by
  have hn' : f.name ≠ "_" := by simpa using hn
  simp only [Op.eqFields, if_pos hn', Sem.run_bind, ha, hb, he, Result.andThen_ok]
  cases r <;> simp
theorem flds_cons (hn : (f.name == "_") = false) (ha : (part f.type xs f.offset).run P w = .ok a w) (hb : (part f.type ys f.offset).run P w = .ok b w) (he : (Op.equalIn d f.type a b).run P w = .ok r w) (hr : (Op.eqFields d xs ys fs).run P w = .ok s w) : (Op.eqFields d xs ys (f :: fs)).run P w = .ok (r && s) w := by
  have hn' : f.name ≠ "_" := by simpa using hn
  rw [Op.eqFields]
  simp only [if_pos hn', Sem.run_bind, ha, hb, he, Result.andThen_ok]
  cases r
  · simp
  · simpa using hr
theorem struct_eq {t : TypeId} {fs : Array Field} (hu : P.underlying t = some (.struct fs)) (hp : P.stoodInHeld t = false) (h : (Op.eqFields d xs ys fs.toList).run P w = .ok r w) : (Op.equalIn (d + 1) t (.agg xs) (.agg ys)).run P w = .ok r w := by
  have hf : P.fieldsOf t = fs := by simp [Program.fieldsOf, hu]
  rw [run_equalIn_struct (P := P) w d t xs ys (by rw [hf]; exact hu) hp, hf]
  exact h
end
theorem eq39 (d : Nat) (w : World) (x0 y0 : Int) (x1 y1 : Int) :
    (Op.equalIn (d + 2) 39 (.agg #[.int .i64 x0, .int .i64 x1]) (.agg #[.int .i64 y0, .int .i64 y1])).run Try.prog w = .ok (x0 == y0 && (x1 == y1)) w := by
  refine struct_eq Try.underlying39 (by kernel_rfl) ?_
  refine flds_cons (by rfl) (by go_simp; rfl) (by go_simp; rfl) (by go_simp) ?_
  exact flds_last (by rfl) (by go_simp; rfl) (by go_simp; rfl) (by go_simp)

theorem sides_in (n : Nat) (A : Option Addr) (m c : Nat) (w : World) :
    CallsIn Fence.wide n Try.prog 69 #[.slice A m c] w fun e w' => e = .returned (.func (.func 88) #[] #[.pointer (some ⟨w.heap.size, 0, none⟩)]) ∧ w' = w.alloc (.cells #[.slice A m c] 22) := by
  refine callsIn_of_wp Try.func69 rfl trivial ?_ rfl
  simp only [Try.ntmps69, List.size_toArray, List.length_cons, List.length_nil, Nat.reduceAdd, Nat.reduceSub, Array.replicate_succ, Array.replicate_zero, List.push_toArray, List.append_toArray, List.nil_append, List.cons_append]
  gi_wp2
  go_ret
  exact ⟨rfl, rfl⟩

/-- **sides HANDS ON each side, in its order.** -/
theorem sides_stops (n : Nat) (hn : 1 ≤ n) (Bn c : Nat) (ad : Addr) (l : List Pt) (h0 : 0 < l.length) (hm : l.length ≤ 64) (Kp : World → World → Prop) (hKp : ∀ A B, Kp A B → SG Bn c ad l A → SG Bn c ad l B) (w : World) (hG : SG Bn c ad l w) :
    SeqStopsK Fence.wide n Try.prog 88 #[.pointer (some ⟨Bn, 0, none⟩)] encE Kp (fun ys => ys = edges l) (fun pre => pre <+: edges l) l.length w := fun lp J Jx W hW hJ _ hY hJ0 =>
  sides1 n hn lp Bn c ad l h0 hm Kp hKp J Jx (fun s A B hs hg => hJ s A B none hs hg (fun r e => by cases e)) hY W (hG.below hW) hJ0

theorem frozen_new (w : World) (cs : Array Value) (t : TypeId) (k : Nat) : (w.alloc (.cells cs t)).frozen? ⟨w.heap.size, k, none⟩ = false := by
  have h : (w.alloc (.cells cs t)).heap[w.heap.size]? = some (.cells cs t (0, 0)) := heap_alloc_new w _
  unfold World.frozen?
  rw [h]
  simp

def twins (l : List Pt) : Bool := (edges l).any fun e => decide (e.1 = e.2)
def smp (l : List Pt) : Int := if l.length < 3 then 90 else if l.length > 64 then 4 else if l.any badP then 5 else if twins l then 91 else if tgl l then 92 else 0

theorem fits_in (n : Nat) (A : Option Addr) (c : Nat) (l : List Pt) (w : World) (hr : Pts w A l) (hm : l.length ≤ 4611686018427387904) :
    CallsIn Fence.wide n Try.prog 68 #[.slice A l.length c] w fun e w' => e = .returned (.bool (!l.any badP)) ∧ Below w.heap.size w w' := callsIn_wide.2 (fits_any A c l w hr hm)
theorem tangled_in (n : Nat) (A : Option Addr) (c : Nat) (l : List Pt) (w : World) (hr : Pts w A l) (hm : l.length ≤ 64) :
    CallsIn Fence.wide n Try.prog 75 #[.slice A l.length c] w fun e w' => e = .returned (.bool (tgl l)) ∧ Below w.heap.size w w' := callsIn_wide.2 (tangled_any A c l w hr hm)

set_option maxRecDepth 100000 in
set_option maxHeartbeats 4000000 in
theorem simple_long (A : Option Addr) (c : Nat) (l : List Pt) (w : World) (hr : Pts w A l) (h3 : 3 ≤ l.length) (hm : l.length ≤ 64) (hg : l.any badP = false) :
    Calls Try.prog 46 #[.slice A l.length c] w fun e w' => e = .returned (.int .i64 (if twins l then 91 else if tgl l then 92 else 0)) ∧ Below w.heap.size w w' := by
  have HR := hid hr
  have HG := hid hg
  clear hr hg
  obtain ⟨ad, rfl, hab⟩ := HR.out.some_ (by omega)
  generalize hRR : (if twins l = true then (91 : Int) else if tgl l = true then 92 else 0) = R
  have HRR := hid hRR
  clear hRR
  refine (callsIn_wide (n := 9)).1 (callsIn_of_wp_marks Try.func46 rfl trivial ?_ rfl)
  simp only [Try.ntmps46, List.size_toArray, List.length_cons, List.length_nil, Nat.reduceAdd, Nat.reduceSub, Array.replicate_succ, Array.replicate_zero, List.push_toArray, List.append_toArray, List.nil_append, List.cons_append]
  gi_wp2_with fail
  refine ⟨trivial, ?_⟩
  refine (fits_in _ _ _ _ _ (HR.out.below ((Below.refl _ _).alloc (Nat.le_refl _) _)) (by omega)).mono ?_
  rw [HG.out]
  rintro e w1 ⟨rfl, hb1⟩
  have HB1 := hid hb1
  clear hb1
  gi_wp2_with fail
  refine ⟨trivial, ?_⟩
  refine (sides_in _ _ _ _ _).mono ?_
  rintro e w' ⟨rfl, rfl⟩
  gi_wp2_with fail
  generalize decide ((l.length : Int) < 3) = b1
  generalize decide (64 < (l.length : Int)) = b2
  have hr0 : (w.alloc (.cells #[.int .i64 0] 27)).cell? ⟨w.heap.size, 0, none⟩ = some (.int .i64 0) := cell_new _ _ _ _
  have hf0 : (w.alloc (.cells #[.int .i64 0] 27)).frozen? ⟨w.heap.size, 0, none⟩ = false := frozen_new _ _ _ _
  have hr1 : w1.cell? ⟨w.heap.size, 0, none⟩ = some (.int .i64 0) := (HB1.out.cell (p := ⟨w.heap.size, 0, none⟩) (by simp)).trans hr0
  have hf1 : w1.frozen? ⟨w.heap.size, 0, none⟩ = false := (HB1.out.frozen (p := ⟨w.heap.size, 0, none⟩) (by simp)).trans hf0
  have hlt1 : w.heap.size < w1.heap.size := by have := HB1.out.size; simp at this; omega
  have hBw1 : Below w.heap.size w w1 := below_then ((Below.refl _ _).alloc (Nat.le_refl _) _) (by simp) HB1.out
  have hcb := cell_new w1 #[.slice (some ad) l.length c] 22 0
  obtain ⟨W2, hW2⟩ : ∃ W2, w1.alloc (.cells #[.slice (some ad) l.length c] 22) = W2 := ⟨_, rfl⟩
  have hB12 : Below w1.heap.size w1 W2 := by rw [← hW2]; exact (Below.refl _ _).alloc (Nat.le_refl _) _
  have hs2 : W2.heap.size = w1.heap.size + 1 := by rw [← hW2]; simp
  have hr2 : W2.cell? ⟨w.heap.size, 0, none⟩ = some (.int .i64 0) := (hB12.cell (p := ⟨w.heap.size, 0, none⟩) hlt1).trans hr1
  have hf2 : W2.frozen? ⟨w.heap.size, 0, none⟩ = false := (hB12.frozen (p := ⟨w.heap.size, 0, none⟩) hlt1).trans hf1
  have hBw2 : Below w.heap.size w W2 := hBw1.trans (hB12.mono hBw1.size)
  rw [hW2] at hcb ⊢
  have HW2 := hid hW2
  clear hW2 hr0 hf0 hr1 hf1
  refine wpIn_rangeFunc_ownH rfl (by omega) (gf := 88) (lb := #[.pointer (some ⟨w1.heap.size, 0, none⟩)]) rfl trivial (enters_of Try.func88 (by kernel_rfl) rfl)
    (sides_stops 8 (by omega) w1.heap.size c ad l (by omega) hm (Below W2.heap.size) (fun A B hk hg => hg.keep hk (by omega) (by have := hBw2.size; omega)) W2 ⟨hcb, HR.out.below hBw2⟩) belowK_t (belowK_b (Nat.le_refl _)) (Below.refl _ _) (fun _ => rfl)
    (fun pre W => (∀ e ∈ pre, e.1 ≠ e.2) ∧ Below W2.heap.size W2 W)
    (fun cd pre W => (cd = .ret ∧ (∃ e ∈ pre, e.1 = e.2) ∧ W.cell? ⟨w.heap.size, 0, none⟩ = some (.int .i64 91)) ∧ Below w.heap.size w W)
    (OwnFrom.and (ownFrom_pure _ _) (ownFrom_below (Nat.le_refl _) (Nat.le_refl _)))
    (fun _ => OwnFrom.and (Own.from (fun s A B row hs hg hr => ⟨hs.1, hs.2.1, cell_kept hs.2.2 hg hr⟩) _) (ownFrom_below (Nat.le_refl _) hBw2.size))
    ⟨by simp, Below.refl _ _⟩
    (fun x a' W => ∃ p q : Nat, a' = { tmps := #[.slice (some ad) l.length c, undef, .pointer (some ⟨w.heap.size, 0, none⟩), .pointer (some ⟨p, 0, none⟩), .pointer (some ⟨q, 0, none⟩), .bool b1, .slice (some ad) l.length c, .int .i64 l.length, .bool b1, .bool b2, .slice (some ad) l.length c, .int .i64 l.length, .bool b2, .bool false, .slice (some ad) l.length c, .bool true, .bool false, .slice (some ad) l.length c, .func (.func 88) #[] #[.pointer (some ⟨w1.heap.size, 0, none⟩)], .agg #[.int .i64 x.1.x, .int .i64 x.1.y], .agg #[.int .i64 x.2.x, .int .i64 x.2.y], undef, undef, undef, undef, undef], defers := [] } ∧
      W.cell? ⟨p, 0, none⟩ = some (.int .i64 x.1.x) ∧ W.cell? ⟨p, 1, none⟩ = some (.int .i64 x.1.y) ∧ W.cell? ⟨q, 0, none⟩ = some (.int .i64 x.2.x) ∧ W.cell? ⟨q, 1, none⟩ = some (.int .i64 x.2.y))
    (fun x a' => Own.from (fun s A B row hs hg hr => by
      obtain ⟨p, q, ha, c1, c2, c3, c4⟩ := hs
      exact ⟨p, q, ha, cell_kept c1 hg hr, cell_kept c2 hg hr, cell_kept c3 hg hr, cell_kept c4 hg hr⟩) _) ?assign ?body ?done ?stop
  case assign =>
    intro lp pre x W K hI hK
    have HI := hid hI
    clear hI
    simp only [encE]
    gi_wp2
    have hsz : W2.heap.size ≤ W.heap.size := HI.out.2.size
    have hbb : Below W2.heap.size W ((W.alloc (.cells #[.int .i64 x.1.x, .int .i64 x.1.y] 39)).alloc (.cells #[.int .i64 x.2.x, .int .i64 x.2.y] 39)) := ((Below.refl _ _).alloc hsz _).alloc (by simp; omega) _
    have e1 := cell_new W #[.int .i64 x.1.x, .int .i64 x.1.y] 39
    have e2 := cell_new (W.alloc (.cells #[.int .i64 x.1.x, .int .i64 x.1.y] 39)) #[.int .i64 x.2.x, .int .i64 x.2.y] 39
    simp only [World.size_alloc] at e2
    refine hK _ _ (((KeepsOthers.alloc _ _).trans (KeepsOthers.alloc _ _)).from _) hbb ⟨HI.out.1, HI.out.2.trans hbb⟩ ⟨W.heap.size, W.heap.size + 1, rfl, alloc_fact (e1 0) _, alloc_fact (e1 1) _, e2 0, e2 1⟩
  case body =>
    rintro lp pre x a' W _ _ ⟨hne, hB⟩ ⟨p, q, rfl, c1, c2, c3, c4⟩ _
    have hr3 : W.cell? ⟨w.heap.size, 0, none⟩ = some (.int .i64 0) := (hB.cell (p := ⟨w.heap.size, 0, none⟩) (by show w.heap.size < _; omega)).trans hr2
    have hf3 : W.frozen? ⟨w.heap.size, 0, none⟩ = false := (hB.frozen (p := ⟨w.heap.size, 0, none⟩) (by show w.heap.size < _; omega)).trans hf2
    have hb3 := hid (hBw2.trans (hB.mono hBw2.size))
    have HNE := hid hne
    have HB := hid hB
    clear hne hB hcb
    by_cases he : x.1 = x.2
    · have he1 : (x.1.x == x.2.x && (x.1.y == x.2.y)) = true := by rw [he]; simp
      have he2 := eq39
      have HE := hid he
      clear he
      gi_wp2
      refine ⟨(KeepsOthers.setCell _ _ _).from _, ⟨rfl, ⟨x, by simp, HE.out⟩, ?_⟩, hb3.out.setCell (p := ⟨w.heap.size, 0, none⟩) (Nat.le_refl _) _⟩
      exact World.cell?_setCell_same' _ _ _ (by rw [hr3]; rfl)
    · have he1 : (x.1.x == x.2.x && (x.1.y == x.2.y)) = false := by
        rw [Bool.eq_false_iff]
        intro h
        simp at h
        apply he
        obtain ⟨⟨_, _⟩, ⟨_, _⟩⟩ := x
        simp_all
      have he2 := eq39
      have HE := hid he
      clear he
      gi_wp2
      refine ⟨(KeepsOthers.refl _).from _, Below.refl _ _, ⟨?_, HB.out⟩⟩
      intro e he
      rcases List.mem_append.1 he with h | h
      · exact HNE.out e h
      · simp at h; subst h; exact HE.out
  case done =>
    rintro D ys W hD rfl ⟨hne, hB⟩ hK
    have htw : twins l = false := by
      unfold twins
      rw [List.any_eq_false]
      intro e he
      simpa using hne e he
    have HT := hid htw
    have hr3 : W.cell? ⟨w.heap.size, 0, none⟩ = some (.int .i64 0) := (hB.cell (p := ⟨w.heap.size, 0, none⟩) (by show w.heap.size < _; omega)).trans hr2
    have hf3 : W.frozen? ⟨w.heap.size, 0, none⟩ = false := (hB.frozen (p := ⟨w.heap.size, 0, none⟩) (by show w.heap.size < _; omega)).trans hf2
    have hb3 := hid (hBw2.trans (hB.mono hBw2.size))
    have hlt3 : w.heap.size < W.heap.size := by have := hB.size; omega
    clear hne htw hcb
    gi_wp2_with fail
    refine ⟨trivial, ?_⟩
    refine (tangled_in _ _ _ _ _ (HR.out.below hb3.out) hm).mono ?_
    rintro e w4 ⟨rfl, hb4⟩
    have hr4 : w4.cell? ⟨w.heap.size, 0, none⟩ = some (.int .i64 0) := (hb4.cell (p := ⟨w.heap.size, 0, none⟩) hlt3).trans hr3
    have hf4 : w4.frozen? ⟨w.heap.size, 0, none⟩ = false := (hb4.frozen (p := ⟨w.heap.size, 0, none⟩) hlt3).trans hf3
    have hb5 := hid (hb3.out.trans (hb4.mono hb3.out.size))
    have hK4 : w4.heap[D]? = some (.deferred (some [])) := (hb4.block D (Array.getElem?_eq_some_iff.1 hK).1).trans hK
    clear hb4 hr3 hf3
    cases ht : tgl l with
    | true =>
      have HG2 := hid ht
      clear ht
      gi_wp2
      have hK5 := (KeepsOthers.setCell w4 ⟨w.heap.size, 0, none⟩ (.int .i64 92)).same D _ hK4 rfl
      refine ⟨by simp, .inl ⟨_, _, rfl, run_takeDeferred hK5, ?_⟩⟩
      have hc5 := cell_kept (World.cell?_setCell_same' w4 ⟨w.heap.size, 0, none⟩ (.int .i64 92) (by rw [hr4]; rfl)) (grownBy_putObj' _ D (.deferred none)) (fun r e => by cases e; exact ⟨_, hK5, rfl⟩)
      refine ⟨.int .i64 92, ?_, ret_int (by rw [← HRR.out, if_neg (by rw [HT.out]; simp), if_pos HG2.out]), (hb5.out.setCell (p := ⟨w.heap.size, 0, none⟩) (Nat.le_refl _) _).trans (belowK_b (w := w) (Nat.le_refl _) _ D _ _ (by omega) hK5 rfl rfl)⟩
      simp [results, Try.f46, go_sem, hc5]
    | false =>
      have HG2 := hid ht
      clear ht
      gi_wp2
      have hK5 := (KeepsOthers.setCell w4 ⟨w.heap.size, 0, none⟩ (.int .i64 0)).same D _ hK4 rfl
      refine ⟨by simp, .inl ⟨_, _, rfl, run_takeDeferred hK5, ?_⟩⟩
      have hc5 := cell_kept (World.cell?_setCell_same' w4 ⟨w.heap.size, 0, none⟩ (.int .i64 0) (by rw [hr4]; rfl)) (grownBy_putObj' _ D (.deferred none)) (fun r e => by cases e; exact ⟨_, hK5, rfl⟩)
      refine ⟨.int .i64 0, ?_, ret_int (by rw [← HRR.out, if_neg (by rw [HT.out]; simp), if_neg (by rw [HG2.out]; simp)]), (hb5.out.setCell (p := ⟨w.heap.size, 0, none⟩) (Nat.le_refl _) _).trans (belowK_b (w := w) (Nat.le_refl _) _ D _ _ (by omega) hK5 rfl rfl)⟩
      simp [results, Try.f46, go_sem, hc5]
  case stop =>
    rintro D cd pre W hD hpre ⟨⟨rfl, hin, hcr⟩, hB⟩ hK
    gi_wp2
    refine ⟨by simp, .inl ⟨_, _, rfl, run_takeDeferred hK, ?_⟩⟩
    have hc5 := cell_kept hcr (grownBy_putObj' _ D (.deferred none)) (fun r e => by cases e; exact ⟨_, hK, rfl⟩)
    have htw : twins l = true := by
      unfold twins
      obtain ⟨e, he, heq⟩ := hin
      rw [List.any_eq_true]
      exact ⟨e, hpre.subset he, by simpa using heq⟩
    refine ⟨.int .i64 91, ?_, ret_int (by rw [← HRR.out, if_pos htw]), hB.trans (belowK_b (w := w) (Nat.le_refl _) W D _ _ (by omega) hK rfl rfl)⟩
    simp [results, Try.f46, go_sem, hc5]
end Go.Proofs.Ytigcbldbolablaa
