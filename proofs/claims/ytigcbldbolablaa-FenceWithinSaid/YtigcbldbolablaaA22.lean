/- The reader of bytes. -/
import Derived.Test.YtigcbldbolablaaA21
namespace Go.Proofs.Ytigcbldbolablaa
open Go.RowKit Go.Proofs.YtigcbldbolablaaW.PrintLast
set_option linter.unusedSimpArgs false

/-- Between two worlds, of what lies below B one block alone has turned; it holds o now. -/
structure Put (B : Nat) (w w' : World) (g : Nat) (o : Obj) : Prop where
  os : w'.os = w.os
  tape : w'.tape = w.tape
  output : w'.output = w.output
  size : w.heap.size ≤ w'.heap.size
  block : ∀ k, k < B → k ≠ g → w'.heap[k]? = w.heap[k]?
  at_ : w'.heap[g]? = some o

theorem Put.mono {B C : Nat} {w w' : World} {g : Nat} {o : Obj} (h : Put B w w' g o) (hc : C ≤ B) : Put C w w' g o :=
  ⟨h.os, h.tape, h.output, h.size, fun k hk hn => h.block k (by omega) hn, h.at_⟩
theorem Put.below {B : Nat} {w w' : World} {g : Nat} {o : Obj} (h : Put B w w' g o) (hg : B ≤ g) : Below B w w' :=
  ⟨h.os, h.tape, h.output, h.size, fun k hk => h.block k hk (by omega)⟩
theorem Put.trans {B : Nat} {a b c : World} {g : Nat} {o o' : Obj} (h : Put B a b g o) (k : Put B b c g o') : Put B a c g o' :=
  ⟨k.os.trans h.os, k.tape.trans h.tape, k.output.trans h.output, Nat.le_trans h.size k.size, fun i hi hn => (k.block i hi hn).trans (h.block i hi hn), k.at_⟩
theorem Put.refl (B : Nat) {w : World} {g : Nat} {o : Obj} (h : w.heap[g]? = some o) : Put B w w g o := ⟨rfl, rfl, rfl, Nat.le_refl _, fun _ _ _ => rfl, h⟩
theorem Put.of_below {B : Nat} {w w' : World} {g : Nat} {o : Obj} (h : w.heap[g]? = some o) (hb : Below B w w') (hg : g < B) : Put B w w' g o :=
  ⟨hb.os, hb.tape, hb.output, hb.size, fun k hk _ => hb.block k hk, (hb.block g hg).trans h⟩
theorem Put.later {B : Nat} {a b c : World} {g : Nat} {o : Obj} (h : Put B a b g o) (k : Below B b c) (hg : g < B) : Put B a c g o := h.trans (Put.of_below h.at_ k hg)
theorem Put.set (B : Nat) {w : World} {g i : Nat} {cs : Array Value} {t : TypeId} {v : Value} (hg : w.heap[g]? = some (.cells cs t (0, 0))) :
    Put B w (w.setCell ⟨g, i, none⟩ v) g (.cells (cs.setIfInBounds i v) t (0, 0)) :=
  ⟨rfl, rfl, rfl, by simp, fun k _ hn => heap_setCell_other w ⟨g, i, none⟩ k v hn, by rw [heap_setCell_same w g i cs t v hg]⟩
theorem heap_lt {W : World} {b : Nat} {o : Obj} (h : W.heap[b]? = some o) : b < W.heap.size := (Array.getElem?_eq_some_iff.1 h).1

/-- A text of bytes. -/
abbrev bst (l : List UInt8) : Value := .string ⟨l.toArray⟩
/-- The reader, as it lies in memory. -/
abbrev rdb (l : List UInt8) (sh : Bool) : Obj := .cells #[.string ⟨l.toArray⟩, .bool sh] 89 (0, 0)
theorem rdb_cells {w : World} {b : Nat} {l : List UInt8} {sh : Bool} (h : w.heap[b]? = some (rdb l sh)) : w.cell? ⟨b, 0, none⟩ = some (bst l) ∧ w.cell? ⟨b, 1, none⟩ = some (.bool sh) ∧ w.frozen? ⟨b, 0, none⟩ = false ∧ w.frozen? ⟨b, 1, none⟩ = false := by
  simp [World.cell?, World.frozen?, h]
theorem ext_take (l : List UInt8) (n : Nat) : (⟨l.toArray⟩ : ByteArray).extract 0 n = ⟨(l.take n).toArray⟩ := by
  ext1
  simp [ByteArray.data_extract]
theorem ext_drop (l : List UInt8) (n : Nat) : (⟨l.toArray⟩ : ByteArray).extract n l.length = ⟨(l.drop n).toArray⟩ := by
  ext1
  simp [ByteArray.data_extract]
  rw [List.take_of_length_le (by simp)]

theorem take_short (b n : Nat) (l : List UInt8) (sh : Bool) (w : World) (h : w.heap[b]? = some (rdb l sh)) (hn : l.length < n) (_ : n ≤ 8) :
    Calls Try.prog 85 #[.pointer (some ⟨b, 0, none⟩), .int .i64 n] w fun e w' => e = .returned (bst [0, 0, 0, 0]) ∧ Put w.heap.size w w' b (rdb l true) := by
  have H := hid h
  obtain ⟨c0, c1, f0, f1⟩ := rdb_cells h
  have hlt := heap_lt h
  clear h
  go_enter Try.func85, Try.ntmps85
  go_wp2
  go_ret
  exact ⟨rfl, Put.set _ H.out⟩
theorem take_some (b n : Nat) (l : List UInt8) (sh : Bool) (w : World) (h : w.heap[b]? = some (rdb l sh)) (hn : n ≤ l.length) (_ : n ≤ 8) (_ : l.length ≤ 140737488351232) :
    Calls Try.prog 85 #[.pointer (some ⟨b, 0, none⟩), .int .i64 n] w fun e w' => e = .returned (bst (l.take n)) ∧ Put w.heap.size w w' b (rdb (l.drop n) sh) := by
  have H := hid h
  obtain ⟨c0, c1, f0, f1⟩ := rdb_cells h
  have hlt := heap_lt h
  have e1 := hid (ext_take l n)
  have e2 := hid (ext_drop l n)
  clear h
  go_enter Try.func85, Try.ntmps85
  go_wp2
  go_ret
  refine ⟨congrArg (fun s => Ending.returned (.string s)) e1.out, ?_⟩
  have hp := Put.set w.heap.size (i := 0) (v := .string ((⟨l.toArray⟩ : ByteArray).extract n l.length)) H.out
  rw [e2.out] at hp ⊢
  exact hp

/-- Four bytes as a number. -/
def num4 (a b c d : Int) : Int := wrap32 (a + b * 256 + c * 65536 + d * 16777216)
theorem or_up (i : Nat) (x y : Int) (hx₀ : 0 ≤ x) (hx : x % 2 ^ i = 0) (hx₁ : x < 2 ^ 32) (hy₀ : 0 ≤ y) (hy : y < 2 ^ i) (hy₁ : y < 2 ^ 32) : bits .or .u32 y x = y + x := by
  have hc : bits .or .u32 y x = bits .or .u32 x y := by simp only [bits, BitVec.or_comm]
  rw [hc, bits_join .u32 32 (by decide) (fun n h0 h1 => by rw [IntKind.wrap_u32]; omega) i x y hx₀ hx hx₁ hy₀ hy hy₁]
  omega
theorem or4 (a b c d : Nat) (ha : a < 256) (hb : b < 256) (hc : c < 256) (hd : d < 256) :
    wrap64 (wrap32 (bits .or .u32 (bits .or .u32 (bits .or .u32 ((a : Int) % 4294967296) ((b : Int) % 4294967296 * 256 % 4294967296)) ((c : Int) % 4294967296 * 65536 % 4294967296)) ((d : Int) % 4294967296 * 16777216 % 4294967296))) = num4 a b c d := by
  have e1 : (a : Int) % 4294967296 = a := by omega
  have e2 : (b : Int) % 4294967296 * 256 % 4294967296 = b * 256 := by omega
  have e3 : (c : Int) % 4294967296 * 65536 % 4294967296 = c * 65536 := by omega
  have e4 : (d : Int) % 4294967296 * 16777216 % 4294967296 = d * 16777216 := by omega
  rw [e1, e2, e3, e4, or_up 8 ((b : Int) * 256) a (by omega) (by omega) (by omega) (by omega) (by omega) (by omega), or_up 16 ((c : Int) * 65536) ((a : Int) + b * 256) (by omega) (by omega) (by omega) (by omega) (by omega) (by omega), or_up 24 ((d : Int) * 16777216) ((a : Int) + b * 256 + c * 65536) (by omega) (by omega) (by omega) (by omega) (by omega) (by omega)]
  unfold num4
  have : ∀ z : Int, wrap64 (wrap32 z) = wrap32 z := fun z => by unfold wrap64 wrap32; omega
  rw [this]
def bt (l : List UInt8) (k : Nat) : Int := ((l.getD k 0).toNat : Int)
def numL (l : List UInt8) : Int := num4 (bt l 0) (bt l 1) (bt l 2) (bt l 3)
def nmV (l : List UInt8) : Int := if 4 ≤ l.length then numL l else 0
def nmL (l : List UInt8) : List UInt8 := if 4 ≤ l.length then l.drop 4 else l
def nmS (l : List UInt8) (sh : Bool) : Bool := if 4 ≤ l.length then sh else true
theorem nmL_le (l : List UInt8) : (nmL l).length ≤ l.length := by
  unfold nmL
  split
  · simp
  · exact Nat.le_refl _
theorem get4 {l : List UInt8} (h : 4 ≤ l.length) : ∃ a b c d r, l = a :: b :: c :: d :: r := by
  match l, h with
  | a :: b :: c :: d :: r, _ => exact ⟨a, b, c, d, r, rfl⟩

set_option maxHeartbeats 2000000 in
theorem number_of (b : Nat) (w : World) (t0 t1 t2 t3 : UInt8) (o : Obj)
    (ht : Calls Try.prog 85 #[.pointer (some ⟨b, 0, none⟩), .int .i64 4] w fun e w' => e = .returned (bst [t0, t1, t2, t3]) ∧ Put w.heap.size w w' b o) :
    Calls Try.prog 64 #[.pointer (some ⟨b, 0, none⟩)] w fun e w' => e = .returned (.int .i64 (num4 t0.toNat t1.toNat t2.toNat t3.toNat)) ∧ Put w.heap.size w w' b o := by
  have HT := hid ht
  clear ht
  go_enter Try.func64, Try.ntmps64
  go_wp2_with fail
  refine HT.out.mono ?_
  rintro e w1 ⟨rfl, hp⟩
  have HP := hid hp
  clear hp
  have hx : (⟨[t0, t1, t2, t3].toArray⟩ : ByteArray).size = 4 := rfl
  go_wp2_with fail
  go_quiet (fail)
  go_wp2
  go_ret
  refine ⟨ret_int ?_, ?_⟩
  · exact or4 _ _ _ _ t0.toNat_lt t1.toNat_lt t2.toNat_lt t3.toNat_lt
  · exact ⟨HP.out.os, HP.out.tape, HP.out.output, HP.out.size, HP.out.block, HP.out.at_⟩

theorem number_any (b : Nat) (l : List UInt8) (sh : Bool) (w : World) (h : w.heap[b]? = some (rdb l sh)) (hs : l.length ≤ 140737488351232) :
    Calls Try.prog 64 #[.pointer (some ⟨b, 0, none⟩)] w fun e w' => e = .returned (.int .i64 (nmV l)) ∧ Put w.heap.size w w' b (rdb (nmL l) (nmS l sh)) := by
  by_cases h4 : 4 ≤ l.length
  · have e1 : nmV l = numL l := if_pos h4
    have e2 : nmL l = l.drop 4 := if_pos h4
    have e3 : nmS l sh = sh := if_pos h4
    rw [e1, e2, e3]
    have ht := take_some b 4 l sh w h h4 (by omega) hs
    obtain ⟨t0, t1, t2, t3, r, rfl⟩ := get4 h4
    exact number_of b w t0 t1 t2 t3 _ ht
  · have e1 : nmV l = num4 (0 : UInt8).toNat (0 : UInt8).toNat (0 : UInt8).toNat (0 : UInt8).toNat := by
      have z : ((0 : UInt8).toNat : Int) = 0 := rfl
      rw [nmV, if_neg h4, z]
      unfold num4 wrap32
      omega
    have e2 : nmL l = l := if_neg h4
    have e3 : nmS l sh = true := if_neg h4
    rw [e1, e2, e3]
    exact number_of b w 0 0 0 0 _ (take_short b 4 l sh w h (by omega) (by omega))
end Go.Proofs.Ytigcbldbolablaa
