/- The reader makes a ticket of just eight bytes. -/
import Derived.Test.YtglifpoiildpfaaTickC
namespace Go.Proofs.Ytglifpoiildpfaa
set_option linter.unusedSimpArgs false
set_option linter.unusedVariables false
open Go Go.RowKit Lb

theorem and_15 (n : Nat) (h : n < 256) : bits .and .i64 (n : Int) 15 = (n : Int) % 16 := by
  show IntKind.i64.wrap ((BitVec.ofInt 64 (n : Int) &&& BitVec.ofInt 64 15).toNat : Int) = _
  have e1 : (BitVec.ofInt 64 (n : Int)).toNat = n := by rw [BitVec.ofInt_natCast, BitVec.toNat_ofNat]; exact Nat.mod_eq_of_lt (by omega)
  have e2 : (BitVec.ofInt 64 15).toNat = 2 ^ 4 - 1 := by decide
  rw [BitVec.toNat_and, e1, e2, Nat.and_two_pow_sub_one_eq_mod, IntKind.wrap_i64]
  omega

set_option maxRecDepth 100000 in
set_option maxHeartbeats 1000000 in
theorem reader_ticket (p : Nat) (b0 b1 b2 b3 b4 b5 b6 b7 : UInt8) (w : World) (hc : w.cell? ⟨p, 0, none⟩ = some (.string (bs [b0, b1, b2, b3, b4, b5, b6, b7]))) (hf : w.frozen? ⟨p, 0, none⟩ = false) (hp : p < w.heap.size) :
    Calls Try.prog 54 #[.pointer (some ⟨p, 0, none⟩)] w fun e w' =>
      e = .returned (.agg (tkc ⟨b0.toNat * 256 + b1.toNat, b6.toNat / 16, b2.toNat * 256 + b3.toNat, b4.toNat * 256 + b5.toNat, b6.toNat % 16, b7.toNat⟩)) ∧ Only w w' p := by
  have hb6 := b6.toNat_lt
  have hn0 : w.heap.size ≠ p := by omega
  have hn1 : w.heap.size + 1 ≠ p := by omega
  have hp1 : p < w.heap.size + 1 := by omega
  have hand := and_15 b6.toNat hb6
  have hnil := bs_nil
  have hcH := Lib.hid hc
  have hfH := Lib.hid hf
  clear hc hf
  go_enter Try.func54, Try.ntmps54
  go_wp2_with fail
  refine (reader_two p b0 b1 [b2, b3, b4, b5, b6, b7] _ (by simp [cellA, hp, hcH.out]) (by simp [frozA, hp, hfH.out])).mono ?_
  rintro e w1 ⟨rfl, h1⟩
  have hc1 := h1.cells
  have hf1 := h1.frozs
  have hz1 := h1.2.2.2
  have H1 := Lib.hid h1
  clear h1
  simp only [World.size_alloc, size_set] at hz1 hc1 hf1
  have hpw1 : p < w1.heap.size := by omega
  have hle1 : w.heap.size ≤ w1.heap.size := by omega
  have hq1 : w.heap.size < w1.heap.size := by omega
  go_wp2_with fail
  refine (reader_two p b2 b3 [b4, b5, b6, b7] _ (by simp [cellA, hpw1, H1.out.2.1, World.cell?_setCell_other]) (by simp [frozA, hpw1, H1.out.2.2.1])).mono ?_
  rintro e w2 ⟨rfl, h2⟩
  have hc2 := h2.cells
  have hf2 := h2.frozs
  have hz2 := h2.2.2.2
  have H2 := Lib.hid h2
  clear h2
  simp only [World.size_alloc, size_set] at hz2 hc2 hf2
  have hq2 : w.heap.size < w2.heap.size := by omega
  have hr2 : w.heap.size + 1 < w2.heap.size := by omega
  go_wp2_with fail
  refine (reader_two p b4 b5 [b6, b7] _ (by simp [H2.out.2.1, World.cell?_setCell_other]) (by simp [H2.out.2.2.1])).mono ?_
  rintro e w3 ⟨rfl, h3⟩
  have hc3 := h3.cells
  have hf3 := h3.frozs
  have hz3 := h3.2.2.2
  have H3 := Lib.hid h3
  clear h3
  simp only [World.size_alloc, size_set] at hz3 hc3 hf3
  have hq3 : w.heap.size < w3.heap.size := by omega
  have hr3 : w.heap.size + 1 < w3.heap.size := by omega
  go_wp2_with fail
  refine (reader_one p b6 [b7] _ (by simp [H3.out.2.1, World.cell?_setCell_other]) (by simp [H3.out.2.2.1])).mono ?_
  rintro e w4 ⟨rfl, h4⟩
  have hc4 := h4.cells
  have hf4 := h4.frozs
  have hz4 := h4.2.2.2
  have H4 := Lib.hid h4
  clear h4
  simp only [World.size_alloc, size_set] at hz4 hc4 hf4
  have hq4 : w.heap.size < w4.heap.size := by omega
  have hr4 : w.heap.size + 1 < w4.heap.size := by omega
  go_wp2_with fail
  refine (reader_one p b7 [] _ (by simp [H4.out.2.1, World.cell?_setCell_other]) (by simp [H4.out.2.2.1])).mono ?_
  rintro e w5 ⟨rfl, h5⟩
  have hc5 := h5.cells
  have hf5 := h5.frozs
  have hz5 := h5.2.2.2
  have H5 := Lib.hid h5
  clear h5
  simp only [World.size_alloc, size_set] at hz5 hc5 hf5
  have hq5 : w.heap.size < w5.heap.size := by omega
  have hr5 : w.heap.size + 1 < w5.heap.size := by omega
  have hp5 := H5.out.2.1
  have q1 : ∀ o, w1.cell? ⟨w.heap.size, o, none⟩ = (#[.int .i64 0, .int .i64 0, .int .i64 0, .int .i64 0, .int .i64 0, .int .i64 0] : Array Value)[o]? := fun o => by rw [hc1 _ _ (by omega) hn0]; simp [go_sem]
  have q2 : ∀ o, w2.cell? ⟨w.heap.size, o, none⟩ = (#[.int .i64 0, .int .i64 0, .int .i64 0, .int .i64 0, .int .i64 0, .int .i64 0] : Array Value)[o]? := fun o => by rw [hc2 _ _ (by omega) hn0, cellA hq1]; exact q1 o
  have q3 : ∀ o, w3.cell? ⟨w.heap.size, o, none⟩ = (#[.int .i64 0, .int .i64 0, .int .i64 0, .int .i64 0, .int .i64 0, .int .i64 0] : Array Value)[o]? := fun o => by rw [hc3 _ _ hq2 hn0, World.cell?_setCell_other _ _ _ _ (by simp)]; exact q2 o
  have q4 : ∀ o, w4.cell? ⟨w.heap.size, o, none⟩ = (#[.int .i64 0, .int .i64 0, .int .i64 0, .int .i64 0, .int .i64 0, .int .i64 0] : Array Value)[o]? := fun o => by rw [hc4 _ _ hq3 hn0, World.cell?_setCell_other _ _ _ _ (by simp)]; exact q3 o
  have q5 : ∀ o, w5.cell? ⟨w.heap.size, o, none⟩ = (#[.int .i64 0, .int .i64 0, .int .i64 0, .int .i64 0, .int .i64 0, .int .i64 0] : Array Value)[o]? := fun o => by rw [hc5 _ _ hq4 hn0, World.cell?_setCell_other _ _ _ _ (by simp), World.cell?_setCell_other _ _ _ _ (by simp)]; exact q4 o
  clear q1 q2 q3 q4
  go_wp2_with fail
  refine bodyPost_ret (v := .agg #[.int .i64 (b0.toNat * 256 + b1.toNat), .int .i64 (b6.toNat / 16), .int .i64 (b2.toNat * 256 + b3.toNat), .int .i64 (b4.toNat * 256 + b5.toNat), .int .i64 (b6.toNat % 16), .int .i64 b7.toNat]) (by simp [results, Try.results54, go_sem, q5]) rfl ⟨rfl, ?_⟩
  exact (((((((((((((((((((Only.refl w p).alloc _).trans H1.out.1).alloc _).trans H2.out.1).setCell (.inr (by simp)) _).trans H3.out.1).setCell (.inr (by simp)) _).trans H4.out.1).setCell (.inr (by simp)) _).setCell (.inr (by simp)) _).trans H5.out.1).setCell (.inr (by simp)) _).setCell (.inr (by simp)) _).setCell (.inr (by simp)) _).setCell (.inr (by simp)) _).setCell (.inr (by simp)) _).setCell (.inr (by simp)) _).setCell (.inr (by simp)) _)
end Go.Proofs.Ytglifpoiildpfaa
