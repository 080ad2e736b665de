/- The reader gives up wherever there are not just eight bytes. -/
import Derived.Test.YtglifpoiildpfaaTickD
namespace Go.Proofs.Ytglifpoiildpfaa
set_option linter.unusedSimpArgs false
set_option linter.unusedVariables false
open Go Go.RowKit Lb

set_option maxRecDepth 100000 in
set_option maxHeartbeats 1000000 in
theorem reader_ticket_no0 (p : Nat) (l : List UInt8) (hl : l.length < 2) (w : World) (hc : w.cell? ⟨p, 0, none⟩ = some (.string (bs (l)))) (hf : w.frozen? ⟨p, 0, none⟩ = false) (hp : p < w.heap.size) :
    Calls Try.prog 54 #[.pointer (some ⟨p, 0, none⟩)] w fun e w' => e = .panicked shortPanic ∧ Only w w' p := by
  have hn0 : w.heap.size ≠ p := by omega
  have hn1 : w.heap.size + 1 ≠ p := by omega
  have hp1 : p < w.heap.size + 1 := by omega
  have hcH := Lib.hid hc
  have hfH := Lib.hid hf
  clear hc hf
  go_enter Try.func54, Try.ntmps54
  go_wp2_with fail
  refine (reader_two_no p l hl _ (by simp [cellA, hp, hcH.out]) (by simp [frozA, hp, hfH.out])).mono ?_
  rintro e w9 ⟨rfl, h9⟩
  go_wp2_with fail
  exact ⟨rfl, rfl, ((Only.refl w p).alloc _).trans h9⟩

set_option maxRecDepth 100000 in
set_option maxHeartbeats 1000000 in
theorem reader_ticket_no1 (p : Nat) (b0 b1 : UInt8) (l : List UInt8) (hl : l.length < 2) (w : World) (hc : w.cell? ⟨p, 0, none⟩ = some (.string (bs (b0 :: b1 :: l)))) (hf : w.frozen? ⟨p, 0, none⟩ = false) (hp : p < w.heap.size) :
    Calls Try.prog 54 #[.pointer (some ⟨p, 0, none⟩)] w fun e w' => e = .panicked shortPanic ∧ Only w w' p := by
  have hn0 : w.heap.size ≠ p := by omega
  have hn1 : w.heap.size + 1 ≠ p := by omega
  have hp1 : p < w.heap.size + 1 := by omega
  have hcH := Lib.hid hc
  have hfH := Lib.hid hf
  clear hc hf
  go_enter Try.func54, Try.ntmps54
  go_wp2_with fail
  refine (reader_two p b0 b1 l _ (by simp [cellA, hp, hcH.out]) (by simp [frozA, hp, hfH.out])).mono ?_
  rintro e w1 ⟨rfl, h1⟩
  have hc1 := h1.cells
  have hf1 := h1.frozs
  have hz1 := h1.2.2.2
  have H1 := Lib.hid h1
  clear h1
  simp only [World.size_alloc, size_set] at hz1 hc1 hf1
  have hpw1 : p < w1.heap.size := by omega
  have hq1 : w.heap.size < w1.heap.size := by omega
  go_wp2_with fail
  refine (reader_two_no p l hl _ (by simp [cellA, hpw1, H1.out.2.1, World.cell?_setCell_other]) (by simp [frozA, hpw1, H1.out.2.2.1])).mono ?_
  rintro e w9 ⟨rfl, h9⟩
  go_wp2_with fail
  exact ⟨rfl, rfl, ((((Only.refl w p).alloc _).trans H1.out.1).alloc _).trans h9⟩

set_option maxRecDepth 100000 in
set_option maxHeartbeats 1000000 in
theorem reader_ticket_no2 (p : Nat) (b0 b1 b2 b3 : UInt8) (l : List UInt8) (hl : l.length < 2) (w : World) (hc : w.cell? ⟨p, 0, none⟩ = some (.string (bs (b0 :: b1 :: b2 :: b3 :: l)))) (hf : w.frozen? ⟨p, 0, none⟩ = false) (hp : p < w.heap.size) :
    Calls Try.prog 54 #[.pointer (some ⟨p, 0, none⟩)] w fun e w' => e = .panicked shortPanic ∧ Only w w' p := by
  have hn0 : w.heap.size ≠ p := by omega
  have hn1 : w.heap.size + 1 ≠ p := by omega
  have hp1 : p < w.heap.size + 1 := by omega
  have hcH := Lib.hid hc
  have hfH := Lib.hid hf
  clear hc hf
  go_enter Try.func54, Try.ntmps54
  go_wp2_with fail
  refine (reader_two p b0 b1 (b2 :: b3 :: l) _ (by simp [cellA, hp, hcH.out]) (by simp [frozA, hp, hfH.out])).mono ?_
  rintro e w1 ⟨rfl, h1⟩
  have hc1 := h1.cells
  have hf1 := h1.frozs
  have hz1 := h1.2.2.2
  have H1 := Lib.hid h1
  clear h1
  simp only [World.size_alloc, size_set] at hz1 hc1 hf1
  have hpw1 : p < w1.heap.size := by omega
  have hq1 : w.heap.size < w1.heap.size := by omega
  go_wp2_with fail
  refine (reader_two p b2 b3 l _ (by simp [cellA, hpw1, H1.out.2.1, World.cell?_setCell_other]) (by simp [frozA, hpw1, H1.out.2.2.1])).mono ?_
  rintro e w2 ⟨rfl, h2⟩
  have hc2 := h2.cells
  have hf2 := h2.frozs
  have hz2 := h2.2.2.2
  have H2 := Lib.hid h2
  clear h2
  simp only [World.size_alloc, size_set] at hz2 hc2 hf2
  have hq2 : w.heap.size < w2.heap.size := by omega
  have hr2 : w.heap.size + 1 < w2.heap.size := by omega
  go_wp2_with fail
  refine (reader_two_no p l hl _ (by simp [H2.out.2.1, World.cell?_setCell_other]) (by simp [H2.out.2.2.1])).mono ?_
  rintro e w9 ⟨rfl, h9⟩
  go_wp2_with fail
  exact ⟨rfl, rfl, ((((((Only.refl w p).alloc _).trans H1.out.1).alloc _).trans H2.out.1).setCell (.inr (by simp)) _).trans h9⟩

set_option maxRecDepth 100000 in
set_option maxHeartbeats 1000000 in
theorem reader_ticket_no3 (p : Nat) (b0 b1 b2 b3 b4 b5 : UInt8) (w : World) (hc : w.cell? ⟨p, 0, none⟩ = some (.string (bs ([b0, b1, b2, b3, b4, b5])))) (hf : w.frozen? ⟨p, 0, none⟩ = false) (hp : p < w.heap.size) :
    Calls Try.prog 54 #[.pointer (some ⟨p, 0, none⟩)] w fun e w' => e = .panicked shortPanic ∧ Only w w' p := by
  have hn0 : w.heap.size ≠ p := by omega
  have hn1 : w.heap.size + 1 ≠ p := by omega
  have hp1 : p < w.heap.size + 1 := by omega
  have hcH := Lib.hid hc
  have hfH := Lib.hid hf
  clear hc hf
  go_enter Try.func54, Try.ntmps54
  go_wp2_with fail
  refine (reader_two p b0 b1 [b2, b3, b4, b5] _ (by simp [cellA, hp, hcH.out]) (by simp [frozA, hp, hfH.out])).mono ?_
  rintro e w1 ⟨rfl, h1⟩
  have hc1 := h1.cells
  have hf1 := h1.frozs
  have hz1 := h1.2.2.2
  have H1 := Lib.hid h1
  clear h1
  simp only [World.size_alloc, size_set] at hz1 hc1 hf1
  have hpw1 : p < w1.heap.size := by omega
  have hq1 : w.heap.size < w1.heap.size := by omega
  go_wp2_with fail
  refine (reader_two p b2 b3 [b4, b5] _ (by simp [cellA, hpw1, H1.out.2.1, World.cell?_setCell_other]) (by simp [frozA, hpw1, H1.out.2.2.1])).mono ?_
  rintro e w2 ⟨rfl, h2⟩
  have hc2 := h2.cells
  have hf2 := h2.frozs
  have hz2 := h2.2.2.2
  have H2 := Lib.hid h2
  clear h2
  simp only [World.size_alloc, size_set] at hz2 hc2 hf2
  have hq2 : w.heap.size < w2.heap.size := by omega
  have hr2 : w.heap.size + 1 < w2.heap.size := by omega
  go_wp2_with fail
  refine (reader_two p b4 b5 [] _ (by simp [H2.out.2.1, World.cell?_setCell_other]) (by simp [H2.out.2.2.1])).mono ?_
  rintro e w3 ⟨rfl, h3⟩
  have hc3 := h3.cells
  have hf3 := h3.frozs
  have hz3 := h3.2.2.2
  have H3 := Lib.hid h3
  clear h3
  simp only [World.size_alloc, size_set] at hz3 hc3 hf3
  have hq3 : w.heap.size < w3.heap.size := by omega
  have hr3 : w.heap.size + 1 < w3.heap.size := by omega
  go_wp2_with fail
  refine (reader_none p _ (by simp [H3.out.2.1, World.cell?_setCell_other])).mono ?_
  rintro e w9 ⟨rfl, h9⟩
  go_wp2_with fail
  exact ⟨rfl, rfl, ((((((((Only.refl w p).alloc _).trans H1.out.1).alloc _).trans H2.out.1).setCell (.inr (by simp)) _).trans H3.out.1).setCell (.inr (by simp)) _).trans h9⟩

set_option maxRecDepth 100000 in
set_option maxHeartbeats 1000000 in
theorem reader_ticket_no4 (p : Nat) (b0 b1 b2 b3 b4 b5 b6 : UInt8) (w : World) (hc : w.cell? ⟨p, 0, none⟩ = some (.string (bs ([b0, b1, b2, b3, b4, b5, b6])))) (hf : w.frozen? ⟨p, 0, none⟩ = false) (hp : p < w.heap.size) :
    Calls Try.prog 54 #[.pointer (some ⟨p, 0, none⟩)] w fun e w' => e = .panicked shortPanic ∧ Only w w' p := by
  have hb6 := b6.toNat_lt
  have hand := and_15 b6.toNat hb6
  have hn0 : w.heap.size ≠ p := by omega
  have hn1 : w.heap.size + 1 ≠ p := by omega
  have hp1 : p < w.heap.size + 1 := by omega
  have hcH := Lib.hid hc
  have hfH := Lib.hid hf
  clear hc hf
  go_enter Try.func54, Try.ntmps54
  go_wp2_with fail
  refine (reader_two p b0 b1 [b2, b3, b4, b5, b6] _ (by simp [cellA, hp, hcH.out]) (by simp [frozA, hp, hfH.out])).mono ?_
  rintro e w1 ⟨rfl, h1⟩
  have hc1 := h1.cells
  have hf1 := h1.frozs
  have hz1 := h1.2.2.2
  have H1 := Lib.hid h1
  clear h1
  simp only [World.size_alloc, size_set] at hz1 hc1 hf1
  have hpw1 : p < w1.heap.size := by omega
  have hq1 : w.heap.size < w1.heap.size := by omega
  go_wp2_with fail
  refine (reader_two p b2 b3 [b4, b5, b6] _ (by simp [cellA, hpw1, H1.out.2.1, World.cell?_setCell_other]) (by simp [frozA, hpw1, H1.out.2.2.1])).mono ?_
  rintro e w2 ⟨rfl, h2⟩
  have hc2 := h2.cells
  have hf2 := h2.frozs
  have hz2 := h2.2.2.2
  have H2 := Lib.hid h2
  clear h2
  simp only [World.size_alloc, size_set] at hz2 hc2 hf2
  have hq2 : w.heap.size < w2.heap.size := by omega
  have hr2 : w.heap.size + 1 < w2.heap.size := by omega
  go_wp2_with fail
  refine (reader_two p b4 b5 [b6] _ (by simp [H2.out.2.1, World.cell?_setCell_other]) (by simp [H2.out.2.2.1])).mono ?_
  rintro e w3 ⟨rfl, h3⟩
  have hc3 := h3.cells
  have hf3 := h3.frozs
  have hz3 := h3.2.2.2
  have H3 := Lib.hid h3
  clear h3
  simp only [World.size_alloc, size_set] at hz3 hc3 hf3
  have hq3 : w.heap.size < w3.heap.size := by omega
  have hr3 : w.heap.size + 1 < w3.heap.size := by omega
  go_wp2_with fail
  refine (reader_one p b6 [] _ (by simp [H3.out.2.1, World.cell?_setCell_other]) (by simp [H3.out.2.2.1])).mono ?_
  rintro e w4 ⟨rfl, h4⟩
  have hc4 := h4.cells
  have hf4 := h4.frozs
  have hz4 := h4.2.2.2
  have H4 := Lib.hid h4
  clear h4
  simp only [World.size_alloc, size_set] at hz4 hc4 hf4
  have hq4 : w.heap.size < w4.heap.size := by omega
  have hr4 : w.heap.size + 1 < w4.heap.size := by omega
  go_wp2_with fail
  refine (reader_none p _ (by simp [H4.out.2.1, World.cell?_setCell_other])).mono ?_
  rintro e w9 ⟨rfl, h9⟩
  go_wp2_with fail
  exact ⟨rfl, rfl, (((((((((((Only.refl w p).alloc _).trans H1.out.1).alloc _).trans H2.out.1).setCell (.inr (by simp)) _).trans H3.out.1).setCell (.inr (by simp)) _).trans H4.out.1).setCell (.inr (by simp)) _).setCell (.inr (by simp)) _).trans h9⟩

set_option maxRecDepth 100000 in
set_option maxHeartbeats 1000000 in
theorem reader_ticket_no5 (p : Nat) (b0 b1 b2 b3 b4 b5 b6 b7 : UInt8) (c : UInt8) (l : List UInt8) (w : World) (hc : w.cell? ⟨p, 0, none⟩ = some (.string (bs (b0 :: b1 :: b2 :: b3 :: b4 :: b5 :: b6 :: b7 :: (c :: l))))) (hf : w.frozen? ⟨p, 0, none⟩ = false) (hp : p < w.heap.size) :
    Calls Try.prog 54 #[.pointer (some ⟨p, 0, none⟩)] w fun e w' => e = .panicked shortPanic ∧ Only w w' p := by
  have hb6 := b6.toNat_lt
  have hand := and_15 b6.toNat hb6
  have hn0 : w.heap.size ≠ p := by omega
  have hn1 : w.heap.size + 1 ≠ p := by omega
  have hp1 : p < w.heap.size + 1 := by omega
  have hcons := bs_cons c l
  have hcH := Lib.hid hc
  have hfH := Lib.hid hf
  clear hc hf
  go_enter Try.func54, Try.ntmps54
  go_wp2_with fail
  refine (reader_two p b0 b1 (b2 :: b3 :: b4 :: b5 :: b6 :: b7 :: (c :: l)) _ (by simp [cellA, hp, hcH.out]) (by simp [frozA, hp, hfH.out])).mono ?_
  rintro e w1 ⟨rfl, h1⟩
  have hc1 := h1.cells
  have hf1 := h1.frozs
  have hz1 := h1.2.2.2
  have H1 := Lib.hid h1
  clear h1
  simp only [World.size_alloc, size_set] at hz1 hc1 hf1
  have hpw1 : p < w1.heap.size := by omega
  have hq1 : w.heap.size < w1.heap.size := by omega
  go_wp2_with fail
  refine (reader_two p b2 b3 (b4 :: b5 :: b6 :: b7 :: (c :: l)) _ (by simp [cellA, hpw1, H1.out.2.1, World.cell?_setCell_other]) (by simp [frozA, hpw1, H1.out.2.2.1])).mono ?_
  rintro e w2 ⟨rfl, h2⟩
  have hc2 := h2.cells
  have hf2 := h2.frozs
  have hz2 := h2.2.2.2
  have H2 := Lib.hid h2
  clear h2
  simp only [World.size_alloc, size_set] at hz2 hc2 hf2
  have hq2 : w.heap.size < w2.heap.size := by omega
  have hr2 : w.heap.size + 1 < w2.heap.size := by omega
  go_wp2_with fail
  refine (reader_two p b4 b5 (b6 :: b7 :: (c :: l)) _ (by simp [H2.out.2.1, World.cell?_setCell_other]) (by simp [H2.out.2.2.1])).mono ?_
  rintro e w3 ⟨rfl, h3⟩
  have hc3 := h3.cells
  have hf3 := h3.frozs
  have hz3 := h3.2.2.2
  have H3 := Lib.hid h3
  clear h3
  simp only [World.size_alloc, size_set] at hz3 hc3 hf3
  have hq3 : w.heap.size < w3.heap.size := by omega
  have hr3 : w.heap.size + 1 < w3.heap.size := by omega
  go_wp2_with fail
  refine (reader_one p b6 (b7 :: (c :: l)) _ (by simp [H3.out.2.1, World.cell?_setCell_other]) (by simp [H3.out.2.2.1])).mono ?_
  rintro e w4 ⟨rfl, h4⟩
  have hc4 := h4.cells
  have hf4 := h4.frozs
  have hz4 := h4.2.2.2
  have H4 := Lib.hid h4
  clear h4
  simp only [World.size_alloc, size_set] at hz4 hc4 hf4
  have hq4 : w.heap.size < w4.heap.size := by omega
  have hr4 : w.heap.size + 1 < w4.heap.size := by omega
  go_wp2_with fail
  refine (reader_one p b7 ((c :: l)) _ (by simp [H4.out.2.1, World.cell?_setCell_other]) (by simp [H4.out.2.2.1])).mono ?_
  rintro e w5 ⟨rfl, h5⟩
  have hc5 := h5.cells
  have hf5 := h5.frozs
  have hz5 := h5.2.2.2
  have H5 := Lib.hid h5
  clear h5
  simp only [World.size_alloc, size_set] at hz5 hc5 hf5
  have hq5 : w.heap.size < w5.heap.size := by omega
  have hr5 : w.heap.size + 1 < w5.heap.size := by omega
  have hp5 := H5.out.2.1
  go_wp2_with fail
  exact ⟨rfl, rfl, (((((((((((((Only.refl w p).alloc _).trans H1.out.1).alloc _).trans H2.out.1).setCell (.inr (by simp)) _).trans H3.out.1).setCell (.inr (by simp)) _).trans H4.out.1).setCell (.inr (by simp)) _).setCell (.inr (by simp)) _).trans H5.out.1).setCell (.inr (by simp)) _)⟩

theorem reader_ticket_no (p : Nat) (l : List UInt8) (hl : l.length ≠ 8) (w : World) (hc : w.cell? ⟨p, 0, none⟩ = some (.string (bs l))) (hf : w.frozen? ⟨p, 0, none⟩ = false) (hp : p < w.heap.size) :
    Calls Try.prog 54 #[.pointer (some ⟨p, 0, none⟩)] w fun e w' => e = .panicked shortPanic ∧ Only w w' p := by
  match l, hl, hc with
  | [], _, hc => exact reader_ticket_no0 p [] (by simp) w hc hf hp
  | [a], _, hc => exact reader_ticket_no0 p [a] (by simp) w hc hf hp
  | [a, b], _, hc => exact reader_ticket_no1 p a b [] (by simp) w hc hf hp
  | [a, b, c], _, hc => exact reader_ticket_no1 p a b [c] (by simp) w hc hf hp
  | [a, b, c, d], _, hc => exact reader_ticket_no2 p a b c d [] (by simp) w hc hf hp
  | [a, b, c, d, e], _, hc => exact reader_ticket_no2 p a b c d [e] (by simp) w hc hf hp
  | [a, b, c, d, e, f], _, hc => exact reader_ticket_no3 p a b c d e f w hc hf hp
  | [a, b, c, d, e, f, g], _, hc => exact reader_ticket_no4 p a b c d e f g w hc hf hp
  | [_, _, _, _, _, _, _, _], hl, _ => exact absurd rfl hl
  | a :: b :: c :: d :: e :: f :: g :: h :: x :: l, _, hc => exact reader_ticket_no5 p a b c d e f g h x l w hc hf hp
end Go.Proofs.Ytglifpoiildpfaa
