/- On which side of a polygon a point is (where the polygon is simple). -/
import Derived.Test.YtigcbldbolablaaA8
namespace Go.Proofs.Ytigcbldbolablaa
open Go.RowKit Go.Shelf

attribute [local go_sem] Oper.semAt_some

def trnE (e : Pt × Pt) (p : Pt) : Int := trn e.1.x e.1.y e.2.x e.2.y p.x p.y
def onE (e : Pt × Pt) (p : Pt) : Bool := decide (trnE e p = 0) && ovr e.1.x e.2.x p.x p.x && ovr e.1.y e.2.y p.y p.y
def stepE (e : Pt × Pt) (p : Pt) : Int := if e.1.y ≤ p.y ∧ p.y < e.2.y ∧ 0 < trnE e p then 1 else if e.2.y ≤ p.y ∧ p.y < e.1.y ∧ trnE e p < 0 then -1 else 0
def rnd (pre : List (Pt × Pt)) (p : Pt) : Int := (pre.map fun e => stepE e p).sum
theorem rnd_snoc (pre : List (Pt × Pt)) (e : Pt × Pt) (p : Pt) : rnd (pre ++ [e]) p = rnd pre p + stepE e p := by simp [rnd]
theorem stepE_bd (e : Pt × Pt) (p : Pt) : -1 ≤ stepE e p ∧ stepE e p ≤ 1 := by unfold stepE; split <;> (try split) <;> omega
theorem rnd_bd (pre : List (Pt × Pt)) (p : Pt) : -(pre.length : Int) ≤ rnd pre p ∧ rnd pre p ≤ pre.length := by
  induction pre with
  | nil => simp [rnd]
  | cons e l ih => have := stepE_bd e p; simp only [rnd, List.map_cons, List.sum_cons, List.length_cons] at *; omega
theorem stepE_a {e : Pt × Pt} {p : Pt} (h1 : e.1.y ≤ p.y) (h2 : p.y < e.2.y) (h3 : 0 < trnE e p) : stepE e p = 1 := if_pos ⟨h1, h2, h3⟩
theorem stepE_b {e : Pt × Pt} {p : Pt} (h1 : e.2.y ≤ p.y) (h2 : p.y < e.1.y) (h3 : trnE e p < 0) : stepE e p = -1 := by
  unfold stepE; rw [if_neg (by omega), if_pos ⟨h1, h2, h3⟩]
theorem stepE_n {e : Pt × Pt} {p : Pt} (h1 : ¬ (e.1.y ≤ p.y ∧ p.y < e.2.y ∧ 0 < trnE e p)) (h2 : ¬ (e.2.y ≤ p.y ∧ p.y < e.1.y ∧ trnE e p < 0)) : stepE e p = 0 := by
  unfold stepE; rw [if_neg h1, if_neg h2]
/-- What a simple polygon's side is. -/
def sideP (l : List Pt) (p : Pt) : Int := if (edges l).any (fun e => onE e p) then 0 else if rnd (edges l) p = 0 then -1 else 1

def AllOff (pre : List (Pt × Pt)) (p : Pt) : Prop := ∀ e ∈ pre, onE e p = false
def SomeOn (pre : List (Pt × Pt)) (p : Pt) : Prop := ∃ e ∈ pre, onE e p = true
theorem AllOff.snoc {pre : List (Pt × Pt)} {x : Pt × Pt} {p : Pt} (h : AllOff pre p) (hx : onE x p = false) : AllOff (pre ++ [x]) p := fun e he => by
  rcases List.mem_append.1 he with h1 | h1
  · exact h e h1
  · simp at h1; subst h1; exact hx
theorem fits1s (p : Pt) (W : World) (b : Nat) (hb : b = W.heap.size) (W1 : World) (h1 : W1 = W.alloc (.cells #[.int .i64 p.x, .int .i64 p.y] 39)) :
    Calls Try.prog 68 #[.slice (some ⟨b, 0, none⟩) 1 1] W1 fun e w' => e = .returned (.bool (!badP p)) ∧ Below W1.heap.size W1 w' := by
  subst hb h1
  have h := fits_any (some ⟨W.heap.size, 0, none⟩) 1 [p] _ (pts_new W [p] 39 #[.int .i64 p.x, .int .i64 p.y] (by
    intro k hk
    have : k = 0 := by simp at hk; omega
    subst this; exact ⟨rfl, rfl⟩)) (by simp)
  simpa using h
theorem simple_in (n : Nat) (A : Option Addr) (c : Nat) (l : List Pt) (w : World) (hr : Pts w A l) (hm : l.length ≤ 4611686018427387904) :
    CallsIn Fence.wide n Try.prog 46 #[.slice A l.length c] w fun e w' => e = .returned (.int .i64 (smp l)) ∧ Below w.heap.size w w' := callsIn_wide.2 (simple_any A c l w hr hm)
theorem smp_ok {l : List Pt} (h : smp l = 0) : 3 ≤ l.length ∧ l.length ≤ 64 ∧ l.any badP = false ∧ twins l = false ∧ tgl l = false := by
  unfold smp at h
  by_cases h1 : l.length < 3
  · rw [if_pos h1] at h; omega
  · rw [if_neg h1] at h
    by_cases h2 : l.length > 64
    · rw [if_pos h2] at h; omega
    · rw [if_neg h2] at h
      cases h3 : l.any badP
      · rw [h3, if_neg (by simp)] at h
        cases h4 : twins l
        · rw [h4, if_neg (by simp)] at h
          cases h5 : tgl l
          · exact ⟨by omega, by omega, rfl, rfl, rfl⟩
          · rw [h5, if_pos rfl] at h; omega
        · rw [h4, if_pos rfl] at h; omega
      · rw [h3, if_pos rfl] at h; omega

set_option maxRecDepth 100000 in
set_option maxHeartbeats 4000000 in
theorem side_in (A : Option Addr) (c : Nat) (l : List Pt) (p : Pt) (w : World) (hr : Pts w A l) (hs : smp l = 0) (hp : badP p = false) :
    Calls Try.prog 34 #[.slice A l.length c, .agg #[.int .i64 p.x, .int .i64 p.y]] w fun e w' => e = .returned (.tuple #[.int .i64 (sideP l p), .int .i64 0]) ∧ Below w.heap.size w w' := by
  have HS := hid hs
  have HP := hid hp
  have HR := hid hr
  obtain ⟨h3, hm, _, _, _⟩ := smp_ok hs
  clear hr hs hp
  obtain ⟨ad, rfl, hab⟩ := HR.out.some_ (by omega)
  generalize hRR : sideP l p = R
  have HRR := hid hRR
  clear hRR
  refine (callsIn_wide (n := 9)).1 (callsIn_of_wp_marks Try.func34 rfl trivial ?_ rfl)
  simp only [Try.ntmps34, List.size_toArray, List.length_cons, List.length_nil, Nat.reduceAdd, Nat.reduceSub, Array.replicate_succ, Array.replicate_zero, List.push_toArray, List.append_toArray, List.nil_append, List.cons_append]
  gi_wp2_with fail
  refine ⟨trivial, ?_⟩
  refine (simple_in _ _ _ _ _ (HR.out.below ((((Below.refl _ _).alloc (Nat.le_refl _) _).alloc (by simp) _).alloc (by simp; omega) _)) (by omega)).mono ?_
  rw [HS.out]
  rintro e w1 ⟨rfl, hb1⟩
  obtain ⟨hc, hf⟩ := bcell hb1
  gi_wp2_with fail
  refine ⟨trivial, ?_⟩
  refine (callsIn_wide.2 (fits1s p _ _ (by simp) _ rfl)).mono ?_
  rw [HP.out]
  rintro e w2 ⟨rfl, hb2⟩
  have hsz1 := hb1.size
  have hsz2 := hb2.size
  simp only [World.size_alloc] at hsz1 hsz2
  have hBw2 : Below w.heap.size w w2 := below_then (below_then ((((Below.refl _ _).alloc (Nat.le_refl _) _).alloc (by simp) _).alloc (by simp; omega) _) (by simp; omega) hb1) (by omega) ((((Below.refl _ _).alloc (Nat.le_refl _) _)).trans (hb2.mono (by simp)))
  have hb12 : Below w1.heap.size w1 w2 := ((Below.refl _ _).alloc (Nat.le_refl _) _).trans (hb2.mono (by simp))
  have mv : ∀ (a : Addr) (v : Value), (((w.alloc (.cells #[.int .i64 p.x, .int .i64 p.y] 39)).alloc (.cells #[.int .i64 0] 3)).alloc (.cells #[.int .i64 0] 27)).cell? a = some v → w2.cell? a = some v := fun a v h => (hb12.cell (p := a) (World.block_lt_of_cell? w1 _ ((hb1.cell (p := a) (World.block_lt_of_cell? _ _ h)).trans h))).trans ((hb1.cell (p := a) (World.block_lt_of_cell? _ _ h)).trans h)
  have mf : ∀ (a : Addr), a.block < w.heap.size + 1 + 1 + 1 → w2.frozen? a = (((w.alloc (.cells #[.int .i64 p.x, .int .i64 p.y] 39)).alloc (.cells #[.int .i64 0] 3)).alloc (.cells #[.int .i64 0] 27)).frozen? a := fun a h => (hb12.frozen (p := a) (by omega)).trans (hb1.frozen (p := a) (by simp; omega))
  have hp0 := mv ⟨w.heap.size, 0, none⟩ (.int .i64 p.x) (alloc_fact (alloc_fact (cell_new _ _ _ _) _) _)
  have hp1 := mv ⟨w.heap.size, 1, none⟩ (.int .i64 p.y) (alloc_fact (alloc_fact (cell_new _ _ _ _) _) _)
  have hq0 := mv ⟨w.heap.size + 1, 0, none⟩ (.int .i64 0) (alloc_fact (by simp [go_sem]) _)
  have hq1 := mv ⟨w.heap.size + 1 + 1, 0, none⟩ (.int .i64 0) (by have := cell_new ((w.alloc (.cells #[.int .i64 p.x, .int .i64 p.y] 39)).alloc (.cells #[.int .i64 0] 3)) #[.int .i64 0] 27 0; simpa using this)
  have hz0 : w2.frozen? ⟨w.heap.size + 1, 0, none⟩ = false := (mf _ (by show w.heap.size + 1 < _; omega)).trans (by simp [go_sem])
  have hz1 : w2.frozen? ⟨w.heap.size + 1 + 1, 0, none⟩ = false := (mf _ (by show w.heap.size + 1 + 1 < _; omega)).trans (by simp [go_sem])
  clear hb1 hb2 hb12 mv mf hc hf hsz1
  gi_wp2_with fail
  refine ⟨trivial, ?_⟩
  refine (sides_in _ _ _ _ _).mono ?_
  rintro e w' ⟨rfl, rfl⟩
  gi_wp2_with fail
  have hrv := cell_new w2 #[.int .i64 0] 3 0
  have hrf := frozen_new w2 #[.int .i64 0] 3 0
  have hcb := cell_new (w2.alloc (.cells #[.int .i64 0] 3)) #[.slice (some ad) l.length c] 22 0
  simp only [World.size_alloc] at hcb
  obtain ⟨W3, hW3⟩ : ∃ W3, (w2.alloc (.cells #[.int .i64 0] 3)).alloc (.cells #[.slice (some ad) l.length c] 22) = W3 := ⟨_, rfl⟩
  have hs3 : W3.heap.size = w2.heap.size + 1 + 1 := by rw [← hW3]; simp
  have hB23 : Below w2.heap.size w2 W3 := by rw [← hW3]; exact ((Below.refl _ _).alloc (Nat.le_refl _) _).alloc (by simp) _
  have hrv3 : W3.cell? ⟨w2.heap.size, 0, none⟩ = some (.int .i64 0) := by rw [← hW3]; exact alloc_fact hrv _
  have hrf3 : W3.frozen? ⟨w2.heap.size, 0, none⟩ = false := by rw [← hW3]; exact (((Below.refl _ _).alloc (Nat.le_refl _) _).frozen (p := ⟨w2.heap.size, 0, none⟩) (by simp)).trans hrf
  rw [hW3] at hcb ⊢
  have HW3 := hid hW3
  clear hW3 hrv hrf
  have hb0 : w.heap.size + 1 + 1 < w2.heap.size := World.block_lt_of_cell? w2 _ hq1
  have hs3a : w2.heap.size + 1 < W3.heap.size := by omega
  clear hs3
  have hab2 : ad.block < w2.heap.size := by have := hBw2.size; omega
  refine wpIn_rangeFunc_ownH rfl (by omega) (gf := 88) (lb := #[.pointer (some ⟨w2.heap.size + 1, 0, none⟩)]) rfl trivial (enters_of Try.func88 (by kernel_rfl) rfl)
    (sides_stops 8 (by omega) (w2.heap.size + 1) c ad l (by omega) hm (fun A B => Below w2.heap.size A B ∧ B.cell? ⟨w2.heap.size + 1, 0, none⟩ = A.cell? ⟨w2.heap.size + 1, 0, none⟩) (fun A B hk hg => ⟨hk.2.trans hg.1, hg.2.keep hk.1 hab2⟩) W3 ⟨hcb, HR.out.below (hBw2.trans (hB23.mono hBw2.size))⟩)
    (fun h k => ⟨h.1.trans k.1, k.2.trans h.2⟩) (fun W lp o o' hl hk h1 h2 => ⟨belowK_b (by omega) W lp o o' hl hk h1 h2, World.cell?_of_block (World.putObj_heap_other (by show w2.heap.size + 1 ≠ lp; omega))⟩) (Below.refl _ _) (fun _ => rfl)
    (fun pre W => AllOff pre p ∧ (W.cell? ⟨w2.heap.size, 0, none⟩ = some (.int .i64 (rnd pre p)) ∧ W.frozen? ⟨w2.heap.size, 0, none⟩ = false ∧ W3.heap.size ≤ W.heap.size) ∧ Below w2.heap.size w2 W)
    (fun cd pre W => (cd = .ret ∧ SomeOn pre p ∧ W.cell? ⟨w.heap.size + 1, 0, none⟩ = some (.int .i64 0) ∧ W.cell? ⟨w.heap.size + 1 + 1, 0, none⟩ = some (.int .i64 0)) ∧ Below w.heap.size w W)
    (OwnFrom.and (ownFrom_pure _ _) (OwnFrom.and (Own.from (fun s A B row hs hg hr => ⟨cell_kept hs.1 hg hr, (frozen_kept hs.1 hg hr).trans hs.2.1, Nat.le_trans hs.2.2 hg.size⟩) _) (ownFrom_below (Nat.le_refl _) (by omega))))
    (fun _ => OwnFrom.and (Own.from (fun s A B row hs hg hr => ⟨hs.1, hs.2.1, cell_kept hs.2.2.1 hg hr, cell_kept hs.2.2.2 hg hr⟩) _) (ownFrom_below (Nat.le_refl _) (by have := hBw2.size; omega)))
    ⟨fun e he => by simp at he, ⟨hrv3, hrf3, Nat.le_refl _⟩, hB23⟩
    (fun x a' W => ∃ q1 q2 : Nat, (w2.heap.size + 1 < q1 ∧ w2.heap.size + 1 < q2) ∧ a' = { tmps := #[.slice (some ad) l.length c, .agg #[.int .i64 p.x, .int .i64 p.y], undef, .pointer (some ⟨w.heap.size, 0, none⟩), .pointer (some ⟨w.heap.size + 1, 0, none⟩), .pointer (some ⟨w.heap.size + 1 + 1, 0, none⟩), .int .i64 0, .pointer (some ⟨w2.heap.size, 0, none⟩), .pointer (some ⟨q1, 0, none⟩), .pointer (some ⟨q2, 0, none⟩), undef, .slice (some ad) l.length c, .int .i64 0, .int .i64 0, .bool false, undef, .agg #[.int .i64 p.x, .int .i64 p.y], .slice (some ⟨w1.heap.size, 0, none⟩) 1 1, .bool true, .bool false, .slice (some ad) l.length c, .func (.func 88) #[] #[.pointer (some ⟨w2.heap.size + 1, 0, none⟩)], .agg #[.int .i64 x.1.x, .int .i64 x.1.y], .agg #[.int .i64 x.2.x, .int .i64 x.2.y], undef, undef, undef, undef, undef, undef, undef, undef, undef, undef, undef, undef, undef, undef, undef, undef, undef, undef, undef, undef, undef, undef, undef, undef, undef, undef, undef, undef, undef, undef, undef, undef, undef, undef, undef, undef, undef, undef, undef, undef, undef, undef, undef, undef, undef, undef, undef, undef, undef, undef, undef, undef, undef, undef, undef, undef, undef, undef, undef, undef, undef, undef, undef, undef, undef, undef, undef, undef], defers := [] } ∧
      W.cell? ⟨q1, 0, none⟩ = some (.int .i64 x.1.x) ∧ W.cell? ⟨q1, 1, none⟩ = some (.int .i64 x.1.y) ∧ W.cell? ⟨q2, 0, none⟩ = some (.int .i64 x.2.x) ∧ W.cell? ⟨q2, 1, none⟩ = some (.int .i64 x.2.y))
    (fun x a' => Own.from (fun s A B row hs hg hr => by
      obtain ⟨q1, q2, hq, ha, c1, c2, c3, c4⟩ := hs
      exact ⟨q1, q2, hq, ha, cell_kept c1 hg hr, cell_kept c2 hg hr, cell_kept c3 hg hr, cell_kept c4 hg hr⟩) _) ?assign ?body ?done ?stop
  case assign =>
    intro lp pre x W K hI hK
    have HI := hid hI
    clear hI
    simp only [encE]
    gi_wp2
    have hsz : w2.heap.size + 1 < W.heap.size := by have := HI.out.2.1.2.2; omega
    have hbb : Below W.heap.size W ((W.alloc (.cells #[.int .i64 x.1.x, .int .i64 x.1.y] 39)).alloc (.cells #[.int .i64 x.2.x, .int .i64 x.2.y] 39)) := ((Below.refl _ _).alloc (Nat.le_refl _) _).alloc (by simp) _
    have e1 := cell_new W #[.int .i64 x.1.x, .int .i64 x.1.y] 39
    have e2 := cell_new (W.alloc (.cells #[.int .i64 x.1.x, .int .i64 x.1.y] 39)) #[.int .i64 x.2.x, .int .i64 x.2.y] 39
    simp only [World.size_alloc] at e2
    refine hK _ _ (((KeepsOthers.alloc _ _).trans (KeepsOthers.alloc _ _)).from _) ⟨hbb.mono (by omega), hbb.cell (p := ⟨w2.heap.size + 1, 0, none⟩) hsz⟩
      ⟨HI.out.1, ⟨(hbb.cell (p := ⟨w2.heap.size, 0, none⟩) (by show w2.heap.size < _; omega)).trans HI.out.2.1.1, (hbb.frozen (p := ⟨w2.heap.size, 0, none⟩) (by show w2.heap.size < _; omega)).trans HI.out.2.1.2.1, Nat.le_trans HI.out.2.1.2.2 hbb.size⟩, HI.out.2.2.trans (hbb.mono (by omega))⟩
      ⟨W.heap.size, W.heap.size + 1, ⟨by omega, by omega⟩, rfl, alloc_fact (e1 0) _, alloc_fact (e1 1) _, e2 0, e2 1⟩
  case body =>
    rintro lp pre x a' W _ _ ⟨hne, ⟨hrc, hrz, hsW⟩, hB⟩ ⟨q1, q2, ⟨hg1, hg2⟩, rfl, c1, c2, c3, c4⟩ hlen
    have ht : trn x.1.x x.1.y x.2.x x.2.y p.x p.y = trnE x p := rfl
    have hpx : W.cell? ⟨w.heap.size, 0, none⟩ = some (.int .i64 p.x) := (hB.cell (p := ⟨w.heap.size, 0, none⟩) (by show w.heap.size < _; omega)).trans hp0
    have hpy : W.cell? ⟨w.heap.size, 1, none⟩ = some (.int .i64 p.y) := (hB.cell (p := ⟨w.heap.size, 1, none⟩) (by show w.heap.size < _; omega)).trans hp1
    have hr4 : W.cell? ⟨w.heap.size + 1, 0, none⟩ = some (.int .i64 0) := (hB.cell (p := ⟨w.heap.size + 1, 0, none⟩) (by show w.heap.size + 1 < _; omega)).trans hq0
    have hr5 : W.cell? ⟨w.heap.size + 1 + 1, 0, none⟩ = some (.int .i64 0) := (hB.cell (p := ⟨w.heap.size + 1 + 1, 0, none⟩) (by show w.heap.size + 1 + 1 < _; omega)).trans hq1
    have hf4 : W.frozen? ⟨w.heap.size + 1, 0, none⟩ = false := (hB.frozen (p := ⟨w.heap.size + 1, 0, none⟩) (by show w.heap.size + 1 < _; omega)).trans hz0
    have hf5 : W.frozen? ⟨w.heap.size + 1 + 1, 0, none⟩ = false := (hB.frozen (p := ⟨w.heap.size + 1 + 1, 0, none⟩) (by show w.heap.size + 1 + 1 < _; omega)).trans hz1
    have g1 : q1 < W.heap.size := World.block_lt_of_cell? W _ c1
    have g2 : q2 < W.heap.size := World.block_lt_of_cell? W _ c3
    have g3 : w2.heap.size < W.heap.size := by omega
    have g4 : w.heap.size + 1 + 1 < W.heap.size := by omega
    have hrb := rnd_bd pre p
    have hl64 : (pre.length : Int) ≤ 64 := by omega
    have HNE := hid hne
    have HB := hid hB
    have HBW := hid (hBw2.trans (hB.mono hBw2.size))
    clear hne hB
    clear HW3 hp0 hp1 hq0 hq1 hz0 hz1
    have hk5 : ∀ w5, Below W.heap.size W w5 → KeepsFrom W3.heap.size W w5 := fun w5 hb => ⟨hb.size, fun k o _ hk _ => (hb.block k (Array.getElem?_eq_some_iff.1 hk).1).trans hk⟩
    have HK5 := hid hk5
    clear hk5
    gi_wp2_with fail
    refine ⟨trivial, ?_⟩
    refine (CallsIn.inRound lp (callsIn_wide.2 (turn_any x.1.x x.1.y x.2.x x.2.y p.x p.y W))).mono ?_
    rintro e w5 ⟨rfl, hb5⟩
    have m5 : ∀ (a : Addr) (v : Value), W.cell? a = some v → w5.cell? a = some v := fun a v h => (hb5.cell (World.block_lt_of_cell? W _ h)).trans h
    have d1 := m5 _ _ c1
    have d2 := m5 _ _ c2
    have d3 := m5 _ _ c3
    have d4 := m5 _ _ c4
    have d5 := m5 _ _ hpx
    have d6 := m5 _ _ hpy
    have d7 := m5 _ _ hrc
    have d8 := m5 _ _ hr4
    have d9 := m5 _ _ hr5
    have f7 : w5.frozen? ⟨w2.heap.size, 0, none⟩ = false := (hb5.frozen (p := ⟨w2.heap.size, 0, none⟩) g3).trans hrz
    have f8 : w5.frozen? ⟨w.heap.size + 1, 0, none⟩ = false := (hb5.frozen (p := ⟨w.heap.size + 1, 0, none⟩) (by show w.heap.size + 1 < _; omega)).trans hf4
    have f9 : w5.frozen? ⟨w.heap.size + 1 + 1, 0, none⟩ = false := (hb5.frozen (p := ⟨w.heap.size + 1 + 1, 0, none⟩) g4).trans hf5
    have HB5 := hid hb5
    clear hb5 m5 c1 c2 c3 c4 hpx hpy hrc hr4 hr5 hrz hf4 hf5 g1 g2
    rw [ht]
    clear ht
    have HT : Hid (trnE x p = trnE x p) := rfl
    generalize hgt : trnE x p = t at *
    have HGT := hid hgt
    clear hgt HT
    have hset : ∀ v, Below w2.heap.size W (w5.setCell ⟨w2.heap.size, 0, none⟩ v) := fun v => (HB5.out.mono (B' := w2.heap.size) (by omega)).setCell (p := ⟨w2.heap.size, 0, none⟩) (Nat.le_refl _) v
    have hother : ∀ v, (w5.setCell ⟨w2.heap.size, 0, none⟩ v).cell? ⟨w2.heap.size + 1, 0, none⟩ = W.cell? ⟨w2.heap.size + 1, 0, none⟩ := fun v =>
      (World.cell?_of_block (Below.heap_setCell w5 ⟨w2.heap.size, 0, none⟩ v _ (by show w2.heap.size + 1 ≠ w2.heap.size; omega))).trans (HB5.out.cell (p := ⟨w2.heap.size + 1, 0, none⟩) (by show w2.heap.size + 1 < _; omega))
    have hkf : ∀ v, KeepsFrom W3.heap.size W (w5.setCell ⟨w2.heap.size, 0, none⟩ v) := fun v => (HK5.out _ HB5.out).trans ((KeepsOthers.setCell _ _ _).from _)
    have LP : Hid (onE x p = false → ∀ d, stepE x p = d → KeepsFrom W3.heap.size W (w5.setCell ⟨w2.heap.size, 0, none⟩ (.int .i64 (rnd pre p + d))) ∧ (Below w2.heap.size W (w5.setCell ⟨w2.heap.size, 0, none⟩ (.int .i64 (rnd pre p + d))) ∧ (w5.setCell ⟨w2.heap.size, 0, none⟩ (.int .i64 (rnd pre p + d))).cell? ⟨w2.heap.size + 1, 0, none⟩ = W.cell? ⟨w2.heap.size + 1, 0, none⟩) ∧
        AllOff (pre ++ [x]) p ∧ ((w5.setCell ⟨w2.heap.size, 0, none⟩ (.int .i64 (rnd pre p + d))).cell? ⟨w2.heap.size, 0, none⟩ = some (.int .i64 (rnd (pre ++ [x]) p)) ∧ (w5.setCell ⟨w2.heap.size, 0, none⟩ (.int .i64 (rnd pre p + d))).frozen? ⟨w2.heap.size, 0, none⟩ = false ∧ W3.heap.size ≤ (w5.setCell ⟨w2.heap.size, 0, none⟩ (.int .i64 (rnd pre p + d))).heap.size) ∧ Below w2.heap.size w2 (w5.setCell ⟨w2.heap.size, 0, none⟩ (.int .i64 (rnd pre p + d)))) := fun hx d hd =>
      ⟨hkf _, ⟨hset _, hother _⟩, HNE.out.snoc hx, ⟨by rw [rnd_snoc, hd]; exact World.cell?_setCell_same' _ _ _ (by rw [d7]; rfl), by rw [World.frozen?_setCell]; exact f7, Nat.le_trans hsW (hset _).size⟩, HB.out.trans (hset _)⟩
    have LN : Hid (onE x p = false → stepE x p = 0 → KeepsFrom W3.heap.size W w5 ∧ (Below w2.heap.size W w5 ∧ w5.cell? ⟨w2.heap.size + 1, 0, none⟩ = W.cell? ⟨w2.heap.size + 1, 0, none⟩) ∧
        AllOff (pre ++ [x]) p ∧ (w5.cell? ⟨w2.heap.size, 0, none⟩ = some (.int .i64 (rnd (pre ++ [x]) p)) ∧ w5.frozen? ⟨w2.heap.size, 0, none⟩ = false ∧ W3.heap.size ≤ w5.heap.size) ∧ Below w2.heap.size w2 w5) := fun hx hd =>
      ⟨HK5.out _ HB5.out, ⟨HB5.out.mono (by omega), HB5.out.cell (p := ⟨w2.heap.size + 1, 0, none⟩) (by show w2.heap.size + 1 < _; omega)⟩, HNE.out.snoc hx, ⟨by rw [rnd_snoc, hd, Int.add_zero]; exact d7, f7, Nat.le_trans hsW HB5.out.size⟩, HB.out.trans (HB5.out.mono (by omega))⟩
    clear hset hother hkf
    by_cases h0 : t = 0
    · have hb0' : (t == 0) = true := beq_iff_eq.2 h0
      have hta : ¬ 0 < t := by omega
      have htb : ¬ t < 0 := by omega
      cases ho1 : ovr x.1.x x.2.x p.x p.x with
      | false =>
        have HON : Hid (onE x p = false) := by show onE x p = false; unfold onE; rw [ho1, Bool.and_false]; rfl
        have H1 := hid ho1
        clear ho1
        gi_wp2_with fail
        refine ⟨trivial, ?_⟩
        refine (CallsIn.inRound lp (callsIn_wide.2 (over_any _ _ _ _ _ H1.out w5))).mono ?_
        rintro e w6 ⟨rfl, rfl⟩
        gi_wp2_with (refine ⟨trivial, ?_⟩)
        all_goals
          first
            | exact LN.out HON.out (stepE_n (by rw [HGT.out]; omega) (by rw [HGT.out]; omega))
            | exact LP.out HON.out 1 (stepE_a (by omega) (by omega) (by rw [HGT.out]; omega))
            | exact LP.out HON.out (-1) (stepE_b (by omega) (by omega) (by rw [HGT.out]; omega))
      | true =>
        cases ho2 : ovr x.1.y x.2.y p.y p.y with
        | false =>
          have HON : Hid (onE x p = false) := by show onE x p = false; unfold onE; rw [ho2, Bool.and_false]
          have H1 := hid ho1
          have H2 := hid ho2
          clear ho1 ho2
          gi_wp2_with fail
          refine ⟨trivial, ?_⟩
          refine (CallsIn.inRound lp (callsIn_wide.2 (over_any _ _ _ _ _ H1.out w5))).mono ?_
          rintro e w6 ⟨rfl, rfl⟩
          gi_wp2_with fail
          refine ⟨trivial, ?_⟩
          refine (CallsIn.inRound lp (callsIn_wide.2 (over_any _ _ _ _ _ H2.out w5))).mono ?_
          rintro e w6 ⟨rfl, rfl⟩
          gi_wp2
          all_goals
            first
              | exact LN.out HON.out (stepE_n (by rw [HGT.out]; omega) (by rw [HGT.out]; omega))
              | exact LP.out HON.out 1 (stepE_a (by omega) (by omega) (by rw [HGT.out]; omega))
              | exact LP.out HON.out (-1) (stepE_b (by omega) (by omega) (by rw [HGT.out]; omega))
        | true =>
          have HON : Hid (onE x p = true) := by show onE x p = true; unfold onE; rw [ho1, ho2, HGT.out, decide_eq_true h0]; rfl
          have H1 := hid ho1
          have H2 := hid ho2
          clear ho1 ho2 LN LP
          gi_wp2_with fail
          refine ⟨trivial, ?_⟩
          refine (CallsIn.inRound lp (callsIn_wide.2 (over_any _ _ _ _ _ H1.out w5))).mono ?_
          rintro e w6 ⟨rfl, rfl⟩
          gi_wp2_with fail
          refine ⟨trivial, ?_⟩
          refine (CallsIn.inRound lp (callsIn_wide.2 (over_any _ _ _ _ _ H2.out w5))).mono ?_
          rintro e w6 ⟨rfl, rfl⟩
          gi_wp2
          have e4 : (w5.setCell ⟨w.heap.size + 1, 0, none⟩ (.int .i64 0)).cell? ⟨w.heap.size + 1, 0, none⟩ = some (.int .i64 0) := World.cell?_setCell_same' _ _ _ (by rw [d8]; rfl)
          have e5 : ((w5.setCell ⟨w.heap.size + 1, 0, none⟩ (.int .i64 0)).setCell ⟨w.heap.size + 1 + 1, 0, none⟩ (.int .i64 0)).cell? ⟨w.heap.size + 1, 0, none⟩ = some (.int .i64 0) := (World.cell?_of_block (Below.heap_setCell _ ⟨w.heap.size + 1 + 1, 0, none⟩ _ _ (by show w.heap.size + 1 ≠ w.heap.size + 1 + 1; omega))).trans e4
          have e6 : (w5.setCell ⟨w.heap.size + 1, 0, none⟩ (.int .i64 0)).cell? ⟨w.heap.size + 1 + 1, 0, none⟩ = some (.int .i64 0) := (World.cell?_of_block (Below.heap_setCell _ ⟨w.heap.size + 1, 0, none⟩ _ _ (by show w.heap.size + 1 + 1 ≠ w.heap.size + 1; omega))).trans d9
          exact ⟨(HK5.out _ HB5.out).trans (((KeepsOthers.setCell _ _ _).trans (KeepsOthers.setCell _ _ _)).from _), ⟨rfl, ⟨x, by simp, HON.out⟩, e5, World.cell?_setCell_same' _ _ _ (by rw [e6]; rfl)⟩,
            ((HBW.out.trans (HB5.out.mono (by omega))).setCell (p := ⟨w.heap.size + 1, 0, none⟩) (by show w.heap.size ≤ w.heap.size + 1; omega) _).setCell (p := ⟨w.heap.size + 1 + 1, 0, none⟩) (by show w.heap.size ≤ w.heap.size + 1 + 1; omega) _⟩
    · have hb0' : (t == 0) = false := beq_eq_false_iff_ne.2 h0
      have HON : Hid (onE x p = false) := by show onE x p = false; unfold onE; rw [HGT.out, decide_eq_false h0]; rfl
      clear h0
      gi_wp2_with (refine ⟨trivial, ?_⟩)
      all_goals
        first
          | exact LN.out HON.out (stepE_n (by rw [HGT.out]; omega) (by rw [HGT.out]; omega))
          | exact LP.out HON.out 1 (stepE_a (by omega) (by omega) (by rw [HGT.out]; omega))
          | exact LP.out HON.out (-1) (stepE_b (by omega) (by omega) (by rw [HGT.out]; omega))
  case done =>
    rintro D ys W hD rfl ⟨hne, ⟨hrc, hrz, hsW⟩, hB⟩ hK
    have hr4 : W.cell? ⟨w.heap.size + 1, 0, none⟩ = some (.int .i64 0) := (hB.cell (p := ⟨w.heap.size + 1, 0, none⟩) (by show w.heap.size + 1 < _; omega)).trans hq0
    have hr5 : W.cell? ⟨w.heap.size + 1 + 1, 0, none⟩ = some (.int .i64 0) := (hB.cell (p := ⟨w.heap.size + 1 + 1, 0, none⟩) (by show w.heap.size + 1 + 1 < _; omega)).trans hq1
    have hf4 : W.frozen? ⟨w.heap.size + 1, 0, none⟩ = false := (hB.frozen (p := ⟨w.heap.size + 1, 0, none⟩) (by show w.heap.size + 1 < _; omega)).trans hz0
    have hf5 : W.frozen? ⟨w.heap.size + 1 + 1, 0, none⟩ = false := (hB.frozen (p := ⟨w.heap.size + 1 + 1, 0, none⟩) (by show w.heap.size + 1 + 1 < _; omega)).trans hz1
    have hno : (edges l).any (fun e => onE e p) = false := by
      rw [List.any_eq_false]
      intro e he
      rw [hne e he]
      simp
    have HNO := hid hno
    have HBW := hid (hBw2.trans (hB.mono hBw2.size))
    have g3 : w2.heap.size ≤ D := by omega
    clear hne hno hB hcb hp0 hp1 hq0 hq1 hz0 hz1 HW3
    by_cases hr0 : rnd (edges l) p = 0
    · have hrb : (rnd (edges l) p == 0) = true := beq_iff_eq.2 hr0
      have HR0 := hid hr0
      clear hr0
      gi_wp2
      have hK5 := ((KeepsOthers.setCell W ⟨w.heap.size + 1, 0, none⟩ (.int .i64 (-1))).trans (KeepsOthers.setCell _ ⟨w.heap.size + 1 + 1, 0, none⟩ (.int .i64 0))).same D _ hK rfl
      refine ⟨by simp, .inl ⟨_, _, rfl, run_takeDeferred hK5, ?_⟩⟩
      have e4 : (W.setCell ⟨w.heap.size + 1, 0, none⟩ (.int .i64 (-1))).cell? ⟨w.heap.size + 1, 0, none⟩ = some (.int .i64 (-1)) := World.cell?_setCell_same' _ _ _ (by rw [hr4]; rfl)
      have e5 : ((W.setCell ⟨w.heap.size + 1, 0, none⟩ (.int .i64 (-1))).setCell ⟨w.heap.size + 1 + 1, 0, none⟩ (.int .i64 0)).cell? ⟨w.heap.size + 1, 0, none⟩ = some (.int .i64 (-1)) := (World.cell?_of_block (Below.heap_setCell _ ⟨w.heap.size + 1 + 1, 0, none⟩ _ _ (by show w.heap.size + 1 ≠ w.heap.size + 1 + 1; omega))).trans e4
      have e6 : (W.setCell ⟨w.heap.size + 1, 0, none⟩ (.int .i64 (-1))).cell? ⟨w.heap.size + 1 + 1, 0, none⟩ = some (.int .i64 0) := (World.cell?_of_block (Below.heap_setCell _ ⟨w.heap.size + 1, 0, none⟩ _ _ (by show w.heap.size + 1 + 1 ≠ w.heap.size + 1; omega))).trans hr5
      have hc5 := cell_kept e5 (grownBy_putObj' _ D (.deferred none)) (fun r e => by cases e; exact ⟨_, hK5, rfl⟩)
      have hc6 := cell_kept (World.cell?_setCell_same' (W.setCell ⟨w.heap.size + 1, 0, none⟩ (.int .i64 (-1))) ⟨w.heap.size + 1 + 1, 0, none⟩ (.int .i64 0) (by rw [e6]; rfl)) (grownBy_putObj' _ D (.deferred none)) (fun r e => by cases e; exact ⟨_, hK5, rfl⟩)
      refine ⟨.tuple #[.int .i64 (-1), .int .i64 0], ?_, by rw [← HRR.out, sideP, if_neg (by rw [HNO.out]; simp), if_pos HR0.out], ((HBW.out.setCell (p := ⟨w.heap.size + 1, 0, none⟩) (by show w.heap.size ≤ w.heap.size + 1; omega) _).setCell (p := ⟨w.heap.size + 1 + 1, 0, none⟩) (by show w.heap.size ≤ w.heap.size + 1 + 1; omega) _).trans (belowK_b (w := w) (Nat.le_refl _) _ D _ _ (by omega) hK5 rfl rfl)⟩
      simp [results, Try.f34, go_sem, hc5, hc6]
    · have hrb : (rnd (edges l) p == 0) = false := beq_eq_false_iff_ne.2 hr0
      have HR0 := hid hr0
      clear hr0
      gi_wp2
      have hK5 := ((KeepsOthers.setCell W ⟨w.heap.size + 1, 0, none⟩ (.int .i64 1)).trans (KeepsOthers.setCell _ ⟨w.heap.size + 1 + 1, 0, none⟩ (.int .i64 0))).same D _ hK rfl
      refine ⟨by simp, .inl ⟨_, _, rfl, run_takeDeferred hK5, ?_⟩⟩
      have e4 : (W.setCell ⟨w.heap.size + 1, 0, none⟩ (.int .i64 1)).cell? ⟨w.heap.size + 1, 0, none⟩ = some (.int .i64 1) := World.cell?_setCell_same' _ _ _ (by rw [hr4]; rfl)
      have e5 : ((W.setCell ⟨w.heap.size + 1, 0, none⟩ (.int .i64 1)).setCell ⟨w.heap.size + 1 + 1, 0, none⟩ (.int .i64 0)).cell? ⟨w.heap.size + 1, 0, none⟩ = some (.int .i64 1) := (World.cell?_of_block (Below.heap_setCell _ ⟨w.heap.size + 1 + 1, 0, none⟩ _ _ (by show w.heap.size + 1 ≠ w.heap.size + 1 + 1; omega))).trans e4
      have e6 : (W.setCell ⟨w.heap.size + 1, 0, none⟩ (.int .i64 1)).cell? ⟨w.heap.size + 1 + 1, 0, none⟩ = some (.int .i64 0) := (World.cell?_of_block (Below.heap_setCell _ ⟨w.heap.size + 1, 0, none⟩ _ _ (by show w.heap.size + 1 + 1 ≠ w.heap.size + 1; omega))).trans hr5
      have hc5 := cell_kept e5 (grownBy_putObj' _ D (.deferred none)) (fun r e => by cases e; exact ⟨_, hK5, rfl⟩)
      have hc6 := cell_kept (World.cell?_setCell_same' (W.setCell ⟨w.heap.size + 1, 0, none⟩ (.int .i64 1)) ⟨w.heap.size + 1 + 1, 0, none⟩ (.int .i64 0) (by rw [e6]; rfl)) (grownBy_putObj' _ D (.deferred none)) (fun r e => by cases e; exact ⟨_, hK5, rfl⟩)
      refine ⟨.tuple #[.int .i64 1, .int .i64 0], ?_, by rw [← HRR.out, sideP, if_neg (by rw [HNO.out]; simp), if_neg HR0.out], ((HBW.out.setCell (p := ⟨w.heap.size + 1, 0, none⟩) (by show w.heap.size ≤ w.heap.size + 1; omega) _).setCell (p := ⟨w.heap.size + 1 + 1, 0, none⟩) (by show w.heap.size ≤ w.heap.size + 1 + 1; omega) _).trans (belowK_b (w := w) (Nat.le_refl _) _ D _ _ (by omega) hK5 rfl rfl)⟩
      simp [results, Try.f34, go_sem, hc5, hc6]
  case stop =>
    rintro D cd pre W hD hpre ⟨⟨rfl, hin, hcr, hcr2⟩, hB⟩ hK
    gi_wp2
    refine ⟨by simp, .inl ⟨_, _, rfl, run_takeDeferred hK, ?_⟩⟩
    have hc5 := cell_kept hcr (grownBy_putObj' _ D (.deferred none)) (fun r e => by cases e; exact ⟨_, hK, rfl⟩)
    have hc6 := cell_kept hcr2 (grownBy_putObj' _ D (.deferred none)) (fun r e => by cases e; exact ⟨_, hK, rfl⟩)
    have htw : (edges l).any (fun e => onE e p) = true := by
      obtain ⟨e, he, heq⟩ := hin
      rw [List.any_eq_true]
      exact ⟨e, hpre.subset he, heq⟩
    refine ⟨.tuple #[.int .i64 0, .int .i64 0], ?_, by rw [← HRR.out, sideP, if_pos htw], hB.trans (belowK_b (w := w) (Nat.le_refl _) W D _ _ (by have := hBw2.size; omega) hK rfl rfl)⟩
    simp [results, Try.f34, go_sem, hc5, hc6]
end Go.Proofs.Ytigcbldbolablaa
