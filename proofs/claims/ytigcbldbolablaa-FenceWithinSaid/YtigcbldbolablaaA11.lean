/- What is wrong with a fence. -/
import Derived.Test.YtigcbldbolablaaA10
namespace Go.Proofs.Ytigcbldbolablaa
open Go.RowKit

/-- A fence. -/
structure Fn where
  poly : List Pt
  fl : Int
  ce : Int
  rl : List Pt
deriving DecidableEq
/-- A fence, as it is handed in: where its lists lie. -/
structure FP where
  A : Option Addr
  c : Nat
  B : Option Addr
  d : Nat
def FP.cells (P : FP) (f : Fn) : Array Value := #[.slice P.A f.poly.length P.c, .int .i64 f.fl, .int .i64 f.ce, .slice P.B f.rl.length P.d]
structure FRd (w : World) (P : FP) (f : Fn) : Prop where
  poly : Pts w P.A f.poly
  rl : Pts w P.B f.rl
  pl : f.poly.length ≤ 4611686018427387904
  rll : f.rl.length ≤ 4611686018427387904
theorem FRd.below {w w1 : World} {P : FP} {f : Fn} (h : FRd w P f) (hb : Below w.heap.size w w1) : FRd w1 P f := ⟨h.poly.below hb, h.rl.below hb, h.pl, h.rll⟩

def chkR (poly : List Pt) : List Pt → Int
  | [] => 0
  | p :: t => if sdE poly p ≠ 0 then sdE poly p else if sdV poly p ≠ 1 then 101 else chkR poly t
def chk (f : Fn) : Int := if smp f.poly ≠ 0 then smp f.poly else if lim f.fl f.ce f.rl.length ≠ 0 then lim f.fl f.ce f.rl.length else chkR f.poly f.rl
theorem drop_nat {l : List Pt} {k : Nat} (h : k < l.length) : l.drop k = npt l k :: l.drop (k + 1) := by
  rw [List.drop_eq_getElem_cons h]; simp [npt, List.getD_eq_getElem?_getD, h]

set_option maxHeartbeats 2000000 in
theorem check_any (P : FP) (f : Fn) (w : World) (hr : FRd w P f) :
    Calls Try.prog 18 #[.agg #[.slice P.A f.poly.length P.c, .int .i64 f.fl, .int .i64 f.ce, .slice P.B f.rl.length P.d]] w fun e w' => e = .returned (.int .i64 (chk f)) ∧ Below w.heap.size w w' := by
  have HR := hid hr
  clear hr
  obtain ⟨A, c, B, d⟩ := P
  by_cases hs : smp f.poly = 0
  · have hsb : (smp f.poly != 0) = false := by simp [hs]
    by_cases hl : lim f.fl f.ce f.rl.length = 0
    · have hc : chk f = chkR f.poly f.rl := by simp [chk, hs, hl]
      rw [hc]
      have HS := hid hs
      have HL := hid hl
      clear hs hl hc hsb
      go_enter Try.func18, Try.ntmps18
      go_wp2_with fail
      refine (simple_any _ _ _ _ (HR.out.poly.below ((Below.refl _ _).alloc (Nat.le_refl _) _)) HR.out.pl).mono ?_
      rw [HS.out]
      rintro e w1 ⟨rfl, hb1⟩
      obtain ⟨hc1, hf1⟩ := bcell hb1
      go_wp2_with fail
      refine (limits_any _ _ _ _ _ _ _ _ _ HR.out.rll).mono ?_
      rw [HL.out]
      rintro e w2 ⟨rfl, hb2⟩
      have hsz1 := hb1.size
      have hsz2 := hb2.size
      simp only [World.size_alloc] at hsz1
      have k0 : w2.cell? ⟨w.heap.size, 0, none⟩ = some (.slice A f.poly.length c) := (hb2.cell (p := ⟨w.heap.size, 0, none⟩) (by show w.heap.size < _; omega)).trans (by rw [hc1 _ _ (by simp)]; exact cell_new _ _ _ _)
      have k3 : w2.cell? ⟨w.heap.size, 3, none⟩ = some (.slice B f.rl.length d) := (hb2.cell (p := ⟨w.heap.size, 3, none⟩) (by show w.heap.size < _; omega)).trans (by rw [hc1 _ _ (by simp)]; exact cell_new _ _ _ _)
      have HB := hid (show Below w.heap.size w w2 from below_then (below_then ((Below.refl _ _).alloc (Nat.le_refl _) _) (by simp) hb1) (by omega) hb2)
      have hlt : w.heap.size < w2.heap.size := by omega
      clear hc1 hf1 hb1 hb2 hsz1 hsz2
      go_wp2
      go_loopw [6, 7, 8, 23] (fun _ _ _ i wr => ∃ k : Nat, k ≤ f.rl.length ∧ i = .int .i64 k ∧ Hid (chkR f.poly f.rl = chkR f.poly (f.rl.drop k)) ∧ Hid (Below w2.heap.size w2 wr)) (fun _ _ _ i _ => f.rl.length - (intOf i).toNat)
      case atStart => exact ⟨0, Nat.zero_le _, rfl, rfl, Below.refl _ _⟩
      case round =>
        obtain ⟨k, hk, rfl, hch, hb⟩ := hrel
        have hcb := (hb.out.cell (p := ⟨w.heap.size, 0, none⟩) hlt).trans k0
        have hsz := hb.out.size
        have hl2 := HR.out.rll
        have hltr : w.heap.size < wr.heap.size := by omega
        by_cases hltk : k < f.rl.length
        · have hFR := HR.out.below (HB.out.trans (hb.out.mono (by omega)))
          have hab := hFR.rl.some_ (by omega)
          dsimp only at hab
          obtain ⟨ad, rfl, hab⟩ := hab
          obtain ⟨hc1, hc2⟩ := hFR.rl.nat k hltk
          have hda : ad.block < wr.heap.size := hab
          have HFR := hid hFR
          clear hFR
          go_wp2_with fail
          refine (side_any _ _ _ (npt f.rl k) _ (HFR.out.poly.below ((Below.refl _ _).alloc (Nat.le_refl _) _)) HR.out.pl).mono ?_
          rintro e w5 ⟨rfl, hb5⟩
          have HB5 := hid (show Below w2.heap.size w2 w5 from (hb.out.trans ((Below.refl _ _).alloc (by omega) _)).trans (hb5.mono (by simp; omega)))
          have hlt5 : w.heap.size < w5.heap.size := by have := HB5.out.size; omega
          have hcb5 := (HB5.out.cell (p := ⟨w.heap.size, 0, none⟩) hlt).trans k0
          clear hb5 hc1 hc2 hcb
          have hch2 : chkR f.poly (f.rl.drop k) = if sdE f.poly (npt f.rl k) ≠ 0 then sdE f.poly (npt f.rl k) else if sdV f.poly (npt f.rl k) ≠ 1 then 101 else chkR f.poly (f.rl.drop (k + 1)) := by rw [drop_nat hltk]; rfl
          have HCH := hid (hch.out.trans hch2)
          clear hch2 hch
          by_cases h5 : sdE f.poly (npt f.rl k) = 0
          · have h5b : (sdE f.poly (npt f.rl k) != 0) = false := by simp [h5]
            by_cases h6 : sdV f.poly (npt f.rl k) = 1
            · have h6b : (sdV f.poly (npt f.rl k) != 1) = false := by simp [h6]
              have H5 := hid h5
              have H6 := hid h6
              clear h5 h6
              go_wp2
              go_roundw
              case rel => exact ⟨k + 1, by omega, by go_num, by have := HCH.out; rw [if_neg (by rw [H5.out]; simp), if_neg (by rw [H6.out]; simp)] at this; exact this, HB5⟩
              case measure => simp [intOf]; omega
            · have h6b : (sdV f.poly (npt f.rl k) != 1) = true := by simp [h6]
              have H5 := hid h5
              have H6 := hid h6
              clear h5 h6
              go_wp2
              go_ret
              exact ⟨ret_int (by have := HCH.out; rw [if_neg (by rw [H5.out]; simp), if_pos H6.out] at this; exact this.symm), HB.out.trans (HB5.out.mono (by omega))⟩
          · have h5b : (sdE f.poly (npt f.rl k) != 0) = true := by simp [h5]
            have H5 := hid h5
            clear h5
            go_wp2
            go_ret
            exact ⟨ret_int (by have := HCH.out; rw [if_pos H5.out] at this; exact this.symm), HB.out.trans (HB5.out.mono (by omega))⟩
        · go_wp2
          go_ret
          exact ⟨ret_int (by rw [hch.out, List.drop_eq_nil_of_le (by omega)]; rfl), HB.out.trans (hb.out.mono (by omega))⟩
    · have hc : chk f = lim f.fl f.ce f.rl.length := by simp [chk, hs, hl]
      rw [hc]
      have hlb : (lim f.fl f.ce f.rl.length != 0) = true := by simp [hl]
      have HS := hid hs
      have HL := hid hl
      clear hs hl hc hsb
      go_enter Try.func18, Try.ntmps18
      go_wp2_with fail
      refine (simple_any _ _ _ _ (HR.out.poly.below ((Below.refl _ _).alloc (Nat.le_refl _) _)) HR.out.pl).mono ?_
      rw [HS.out]
      rintro e w1 ⟨rfl, hb1⟩
      obtain ⟨hc1, hf1⟩ := bcell hb1
      go_wp2_with fail
      refine (limits_any _ _ _ _ _ _ _ _ _ HR.out.rll).mono ?_
      rintro e w2 ⟨rfl, hb2⟩
      go_wp2
      go_ret
      exact ⟨rfl, below_then (below_then ((Below.refl _ _).alloc (Nat.le_refl _) _) (by simp) hb1) (by have := hb1.size; simp at this; omega) hb2⟩
  · have hc : chk f = smp f.poly := by simp [chk, hs]
    rw [hc]
    have hsb : (smp f.poly != 0) = true := by simp [hs]
    have HS := hid hs
    clear hs hc
    go_enter Try.func18, Try.ntmps18
    go_wp2_with fail
    refine (simple_any _ _ _ _ (HR.out.poly.below ((Below.refl _ _).alloc (Nat.le_refl _) _)) HR.out.pl).mono ?_
    rintro e w1 ⟨rfl, hb1⟩
    go_wp2
    go_ret
    exact ⟨rfl, below_then ((Below.refl _ _).alloc (Nat.le_refl _) _) (by simp) hb1⟩
end Go.Proofs.Ytigcbldbolablaa
