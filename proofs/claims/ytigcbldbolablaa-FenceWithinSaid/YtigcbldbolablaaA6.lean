/- A polygon's sides, one by one: what the iterator hands on. -/
import Derived.Test.YtigcbldbolablaaA5
import Derived.RangeFuncFrom
import Derived.RangeFuncLeaves
import Derived.Shelf.Abstract
import Derived.OwnWalkIn
import Derived.TacticsInMore
import Derived.LoopNIn
import Derived.LoopIn
import Derived.RegionIn
import Derived.BigRegionIn
import Derived.Shelf.RegionOpen
namespace Go.Proofs.Ytigcbldbolablaa
open Go.RowKit Go.Shelf

attribute [local go_sem] Oper.semAt_some

def edges (l : List Pt) : List (Pt × Pt) := (List.range l.length).map fun i => (npt l i, npt l ((i + 1) % l.length))
def encE (e : Pt × Pt) : Array Value := #[.agg #[.int .i64 e.1.x, .int .i64 e.1.y], .agg #[.int .i64 e.2.x, .int .i64 e.2.y]]
theorem edges_length (l : List Pt) : (edges l).length = l.length := by simp [edges]
theorem edges_take {l : List Pt} {k : Nat} (h : k < l.length) : (edges l).take (k + 1) = (edges l).take k ++ [(npt l k, npt l ((k + 1) % l.length))] := by
  rw [List.take_succ_eq_append_getElem (by rw [edges_length]; exact h)]
  simp [edges]

theorem Pts.keep {w w1 : World} {ad : Addr} {l : List Pt} {B : Nat} (h : Pts w (some ad) l) (hb : Below B w w1) (had : ad.block < B) : Pts w1 (some ad) l := fun k hk => by
  obtain ⟨h2, h3⟩ := h.nat k hk
  obtain ⟨ad', e, h1, _⟩ := h k hk
  cases e
  refine ⟨ad, rfl, Nat.lt_of_lt_of_le h1 hb.size, ?_, ?_⟩
  · rw [hb.cell (p := ad.add (k * 2)) (by rw [add_blk]; exact had)]; exact h2
  · rw [hb.cell (p := ⟨(ad.add (k * 2)).block, (ad.add (k * 2)).off + 1, none⟩) (by show (ad.add (k * 2)).block < _; rw [add_blk]; exact had)]; exact h3
theorem alloc_fact {w : World} {a : Addr} {v : Value} (h : w.cell? a = some v) (o : Obj) : (w.alloc o).cell? a = some v := (((Below.refl _ _).alloc (Nat.le_refl _) o).cell (World.block_lt_of_cell? w a h)).trans h
theorem yq {e : Ending} {A B : Prop} (h : (e = .returned (.bool true) ∧ A) ∨ (e = .returned (.bool false) ∧ B)) : ∃ b : Bool, e = .returned (.bool b) ∧ Hid ((b = true → A) ∧ (b = false → B)) := by
  rcases h with ⟨rfl, h⟩ | ⟨rfl, h⟩
  · exact ⟨true, rfl, fun _ => h, fun h => by cases h⟩
  · exact ⟨false, rfl, fun h => (by cases h), fun _ => h⟩
theorem drewN_grown (W : World) (n : Nat) : W.grownBy (W.drewN n) none := ⟨rfl, rfl, rfl, Nat.le_refl _, fun _ _ _ => rfl⟩
theorem drewN_below (B : Nat) (W : World) (n : Nat) : Below B W (W.drewN n) := ⟨rfl, rfl, rfl, Nat.le_refl _, fun _ _ => rfl⟩
theorem drew_grown (W : World) : W.grownBy W.drew none := ⟨rfl, rfl, rfl, Nat.le_refl _, fun _ _ _ => rfl⟩

/-- What the iterator reads: the slice that it captured, and the points behind. -/
def SG (Bn c : Nat) (ad : Addr) (l : List Pt) (W : World) : Prop := W.cell? ⟨Bn, 0, none⟩ = some (.slice (some ad) l.length c) ∧ Pts W (some ad) l
theorem SG.below {Bn c : Nat} {ad : Addr} {l : List Pt} {W W' : World} (h : SG Bn c ad l W) (hb : Below W.heap.size W W') : SG Bn c ad l W' :=
  ⟨(hb.cell (p := ⟨Bn, 0, none⟩) (World.block_lt_of_cell? W _ h.1)).trans h.1, h.2.below hb⟩
theorem SG.keep {Bn c B : Nat} {ad : Addr} {l : List Pt} {W W' : World} (h : SG Bn c ad l W) (hb : Below B W W') (h1 : Bn < B) (h2 : ad.block < B) : SG Bn c ad l W' :=
  ⟨(hb.cell (p := ⟨Bn, 0, none⟩) h1).trans h.1, h.2.keep hb h2⟩

set_option maxRecDepth 100000 in
set_option maxHeartbeats 4000000 in
theorem sides1 (n : Nat) (hn : 1 ≤ n) (lp Bn c : Nat) (ad : Addr) (l : List Pt) (h0 : 0 < l.length) (hm : l.length ≤ 64) (Kp : World → World → Prop) (hKp : ∀ A B, Kp A B → SG Bn c ad l A → SG Bn c ad l B) (J Jx : List (Pt × Pt) → World → Prop)
    (hJ : ∀ s A B, J s A → A.grownBy B none → J s B)
    (hY : ∀ pre x W, J pre W → pre.length < l.length → YieldAt Fence.wide (n - 1) Try.prog lp (encE x) W fun e W' =>
      (e = .returned (.bool true) ∧ J (pre ++ [x]) W' ∧ Kp W W') ∨ (e = .returned (.bool false) ∧ Jx (pre ++ [x]) W'))
    (W : World) (hG : SG Bn c ad l W) (hJ0 : J [] W) :
    CallsIn Fence.wide n Try.prog 88 #[.func (.yield lp) #[] #[], .pointer (some ⟨Bn, 0, none⟩)] W fun e W' => (∃ v, e = .returned v) ∧
      ((∃ ys, ys = edges l ∧ J ys W') ∨ (∃ pre, pre <+: edges l ∧ Jx pre W')) := by
  refine callsIn_of_wp Try.func88 rfl trivial ?_ rfl
  simp only [Try.ntmps88, List.size_toArray, List.length_cons, List.length_nil, Nat.reduceAdd, Nat.reduceSub, Array.replicate_succ, Array.replicate_zero, List.push_toArray, List.append_toArray, List.nil_append, List.cons_append]
  have hBn := hG.1
  gi_wp2
  gi_loopw [4, 5, 11] (fun _ _ i wr => ∃ k : Nat, k ≤ l.length ∧ i = .int .i64 k ∧ Hid (J ((edges l).take (min k (l.length - 1))) wr) ∧ Hid (SG Bn c ad l wr)) (fun _ _ i _ => l.length - (intOf i).toNat)
  case atStart => exact ⟨0, Nat.zero_le _, rfl, by rw [Nat.min_eq_left (Nat.zero_le _), List.take_zero]; exact hJ0, hG⟩
  case round =>
    obtain ⟨k, hk, rfl, hj, hb⟩ := hrel
    have hcb : wr.cell? ⟨Bn, 0, none⟩ = some (.slice (some ad) l.length c) := hb.out.1
    have HP := hid hb.out.2
    have hab : ad.block < wr.heap.size := by obtain ⟨ad', e, h, _⟩ := hb.out.2 0 h0; cases e; exact h
    have hbw : Bn < wr.heap.size := World.block_lt_of_cell? wr _ hb.out.1
    clear hBn
    by_cases hlt : k < l.length
    · obtain ⟨hc1, hc2⟩ := HP.out.nat k hlt
      by_cases hla : k < l.length - 1
      · obtain ⟨hd1, hd2⟩ := HP.out.nat (k + 1) (by omega)
        have hb1 : (0 : Int) ≤ (k : Int) + 1 := by omega
        have hb2 : (k : Int) + 1 < (l.length : Int) := by omega
        have hw1 : IntKind.i64.wrap ((k : Int) + 1) = (k : Int) + 1 := IntWalk.i64_in _ (by omega)
        have ht1 : ((k : Int) + 1).toNat = k + 1 := by omega
        have la1 := alloc_fact hd1
        have la2 := alloc_fact hd2
        have hla1 : (k : Int) < (l.length : Int) - 1 := by omega
        have hmix : Try.prog.follows .mixedOrders = true := by kernel_rfl
        have hj2 : J ((edges l).take k) (wr.alloc (.cells #[.int .i64 (npt l k).x, .int .i64 (npt l k).y] 39)).drew := hJ _ _ _ (hJ _ _ _ (by have := hj.out; rwa [Nat.min_eq_left (by omega)] at this) (World.grownBy_alloc wr _ none)) (drew_grown _)
        obtain ⟨fn, tmps, assign, body, hy, hR⟩ := hY _ (npt l k, npt l (k + 1)) _ hj2 (by simp [edges_length]; omega)
        simp only [encE] at hy
        have HR := hid hR
        clear hR hj2
        gi_wp2
        gi_region_with_o (refine HR.out.mono ?_; rintro e W3 hq; obtain ⟨b, rfl, HQ⟩ := yq hq)
        all_goals
          have HK := hid (hb.out.below (((Below.refl _ wr).alloc (Nat.le_refl _) (.cells #[.int .i64 (npt l k).x, .int .i64 (npt l k).y] 39)).drew))
          clear hy hb hcb hc1 hc2 hd1 hd2 la1 la2 hw1 ht1 HR
          generalize (wr.alloc (.cells #[.int .i64 (npt l k).x, .int .i64 (npt l k).y] 39)).drew = w2 at *
          cases b with
          | true =>
            have HT := hid (HQ.out.1 rfl)
            clear HQ
            gi_wp2
            go_roundw
            case rel => exact ⟨k + 1, by omega, by go_num, by rw [Nat.min_eq_left (by omega), edges_take hlt, Nat.mod_eq_of_lt (by omega)]; exact HT.out.1, hKp _ _ HT.out.2 HK.out⟩
            case measure => simp [intOf]; omega
          | false =>
            have HF := hid (HQ.out.2 rfl)
            clear HQ
            gi_wp2
            refine bodyPost_ret (results_none rfl _ _ _) rfl ?_
            refine ⟨⟨_, rfl⟩, .inr ⟨_, ?_, HF.out⟩⟩
            have := edges_take (l := l) hlt
            rw [Nat.mod_eq_of_lt (by omega)] at this
            rw [← this]
            exact List.take_prefix _ _
      · have hla1 : decide ((k : Int) < (l.length : Int) - 1) = false := decide_eq_false (by omega)
        have hmix : Try.prog.follows .mixedOrders = true := by kernel_rfl
        have HK := hid (hb.out.below ((Below.refl _ wr).alloc (Nat.le_refl _) (.cells #[.int .i64 (npt l k).x, .int .i64 (npt l k).y] 39)))
        have hj2 := hid (show J ((edges l).take (min (k + 1) (l.length - 1))) (wr.alloc (.cells #[.int .i64 (npt l k).x, .int .i64 (npt l k).y] 39)) from hJ _ _ _ (by have := hj.out; rwa [show min k (l.length - 1) = min (k + 1) (l.length - 1) by omega] at this) (World.grownBy_alloc wr _ none))
        gi_wp2
        refine wpIn_region_quiet_lit rfl (by assumption) (by kernel_rfl) ?_
        repeat (gi_big_quiet_step (fail))
        refine BigFrame.wpQuietIn_skip (fun _ _ _ _ => trivial) rfl ?_
        simp only [Act.put, List.setIfInBounds_toArray, List.set_cons_succ, List.set_cons_zero]
        repeat (gi_big_quiet_step (fail))
        refine wpQuietIn_nil ?_
        rintro _ ⟨nq, rfl⟩
        have HK2 := hid (HK.out.below (drewN_below _ _ nq))
        have hj3 := hid (hJ _ _ _ hj2.out (drewN_grown _ nq))
        gi_wp2
        go_roundw
        case rel => exact ⟨k + 1, by omega, by go_num, hj3, HK2⟩
        case measure => simp [intOf]; omega
    · have hmix : Try.prog.follows .mixedOrders = true := by kernel_rfl
      have hj2 : J ((edges l).take (l.length - 1)) wr.drew := hJ _ _ _ (by have := hj.out; rwa [show min k (l.length - 1) = l.length - 1 by omega] at this) (drew_grown _)
      obtain ⟨fn, tmps, assign, body, hy, hR⟩ := hY _ (npt l (l.length - 1), npt l 0) _ hj2 (by simp [edges_length]; omega)
      simp only [encE] at hy
      have HR := hid hR
      clear hR hj2
      obtain ⟨hc1, hc2⟩ := HP.out.nat (l.length - 1) (by omega)
      obtain ⟨hd1', hd2'⟩ := HP.out.nat 0 h0
      have hd1 : wr.cell? ad = some (.int .i64 (npt l 0).x) := by simpa [Addr.add] using hd1'
      have hd2 : wr.cell? ⟨ad.block, ad.off + 1, none⟩ = some (.int .i64 (npt l 0).y) := by simpa [Addr.add] using hd2'
      have ht1 : ((l.length : Int) - 1).toNat = l.length - 1 := by omega
      have hb1 : (0 : Int) ≤ (l.length : Int) - 1 := by omega
      have hb2 : (l.length : Int) - 1 < (l.length : Int) := by omega
      have hb3 : (0 : Int) < (l.length : Int) := by omega
      clear hd1' hd2'
      gi_wp2
      gi_region_with_o (refine HR.out.mono ?_; rintro e W3 hq; obtain ⟨b, rfl, HQ⟩ := yq hq)
      all_goals
        clear hy hcb hc1 hc2 hd1 hd2 ht1 HR
        have he : (edges l).take (l.length - 1) ++ [(npt l (l.length - 1), npt l 0)] = edges l := by
          have := edges_take (l := l) (k := l.length - 1) (by omega)
          rw [show l.length - 1 + 1 = l.length by omega, Nat.mod_self, List.take_of_length_le (by rw [edges_length]; exact Nat.le_refl _)] at this
          exact this.symm
        have HE := hid he
        clear he
        gi_wp2
        go_end0
        refine ⟨⟨_, rfl⟩, ?_⟩
        have HQ' := HQ.out
        rw [HE.out] at HQ'
        cases b with
        | true => exact .inl ⟨_, rfl, (HQ'.1 rfl).1⟩
        | false => exact .inr ⟨_, List.prefix_refl _, HQ'.2 rfl⟩
end Go.Proofs.Ytigcbldbolablaa
