/- The reader of bytes: one byte, two bytes, or it gives up. -/
import Derived.Test.YtglifpoiildpfaaTickB
import Derived.Recover
import Derived.Defers
import Derived.Laws.Strings
namespace Go.Proofs.Ytglifpoiildpfaa
set_option linter.unusedSimpArgs false
set_option linter.unusedVariables false
open Go Go.RowKit Lb

def bs (l : List UInt8) : ByteArray := ⟨l.toArray⟩
/-- what a reader gives up with -/
def shortPanic : List PanicEntry := [{ v := .iface 71 (.agg #[]), recovered := false }]

theorem bs_extract (c : UInt8) (l : List UInt8) : (bs (c :: l)).extract 1 (bs (c :: l)).size = bs l := by
  unfold bs
  apply ByteArray.ext
  simp [ByteArray.size]
theorem bs_cons (c : UInt8) (l : List UInt8) : (bs (c :: l)).toList.isEmpty = false := by rw [ByteArray.toList_eq]; simp [bs]
theorem bs_size (l : List UInt8) : (bs l).size = l.length := by simp [bs, ByteArray.size]
theorem bs_nil : (bs []).toList.isEmpty = true := by rw [ByteArray.toList_eq]; simp [bs]
theorem bs_head (c : UInt8) (l : List UInt8) (h : 0 < (bs (c :: l)).size) : (bs (c :: l))[0].toNat = c.toNat := rfl
theorem byte_wrap (c : UInt8) : wrap64 (c.toNat : Int) = (c.toNat : Int) := by
  have := c.toNat_lt
  exact IntWalk.wrap64_in _ (by omega)

/-- Only the reader's cell has turned; it holds the bytes l. -/
def Rdr (w w' : World) (p : Nat) (l : List UInt8) : Prop :=
  Only w w' p ∧ w'.cell? ⟨p, 0, none⟩ = some (.string (bs l)) ∧ w'.frozen? ⟨p, 0, none⟩ = false ∧ w'.heap.size = w.heap.size

theorem Rdr.trans {a b c : World} {p : Nat} {l m : List UInt8} (h : Rdr a b p l) (k : Rdr b c p m) : Rdr a c p m :=
  ⟨h.1.trans k.1, k.2.1, k.2.2.1, k.2.2.2.trans h.2.2.2⟩

theorem Rdr.cells {a b : World} {p : Nat} {l : List UInt8} (h : Rdr a b p l) : ∀ q o, q < a.heap.size → q ≠ p → b.cell? ⟨q, o, none⟩ = a.cell? ⟨q, o, none⟩ := fun _ o hq hn => h.1.cell hq hn o
theorem Rdr.frozs {a b : World} {p : Nat} {l : List UInt8} (h : Rdr a b p l) : ∀ q o, q < a.heap.size → q ≠ p → b.frozen? ⟨q, o, none⟩ = a.frozen? ⟨q, o, none⟩ := fun _ o hq hn => h.1.froz hq hn o

set_option maxHeartbeats 400000 in
theorem reader_one (p : Nat) (c : UInt8) (l : List UInt8) (w : World) (hc : w.cell? ⟨p, 0, none⟩ = some (.string (bs (c :: l)))) (hf : w.frozen? ⟨p, 0, none⟩ = false) :
    Calls Try.prog 60 #[.pointer (some ⟨p, 0, none⟩)] w fun e w' => e = .returned (.int .i64 c.toNat) ∧ Rdr w w' p l := by
  have hne := bs_cons c l
  have hz : 0 < (bs (c :: l)).size := by rw [bs_size]; simp
  have hx := bs_extract c l
  go_enter Try.func60, Try.ntmps60
  go_wp2
  go_ret
  refine ⟨ret_int ?_, ?_⟩
  · rw [bs_head]; exact byte_wrap c
  · refine ⟨(Only.refl _ _).setCell (.inl rfl) _, by simp [go_sem, hc], by simp [go_sem, hf], by simp [World.setCell]⟩

set_option maxHeartbeats 400000 in
theorem reader_none (p : Nat) (w : World) (hc : w.cell? ⟨p, 0, none⟩ = some (.string (bs []))) :
    Calls Try.prog 60 #[.pointer (some ⟨p, 0, none⟩)] w fun e w' => e = .panicked shortPanic ∧ Only w w' p := by
  have hne := bs_nil
  go_enter Try.func60, Try.ntmps60
  go_wp2
  exact ⟨rfl, rfl, Only.refl _ _⟩

set_option maxHeartbeats 400000 in
theorem reader_two (p : Nat) (c d : UInt8) (l : List UInt8) (w : World) (hc : w.cell? ⟨p, 0, none⟩ = some (.string (bs (c :: d :: l)))) (hf : w.frozen? ⟨p, 0, none⟩ = false) :
    Calls Try.prog 59 #[.pointer (some ⟨p, 0, none⟩)] w fun e w' => e = .returned (.int .i64 (c.toNat * 256 + d.toNat)) ∧ Rdr w w' p l := by
  have hc1 := c.toNat_lt
  have hd1 := d.toNat_lt
  go_enter Try.func59, Try.ntmps59
  go_wp2_with fail
  refine (reader_one p c _ _ hc hf).mono ?_
  rintro e w1 ⟨rfl, h1⟩
  go_wp2_with fail
  refine (reader_one p d _ _ h1.2.1 h1.2.2.1).mono ?_
  rintro e w2 ⟨rfl, h2⟩
  go_wp2_with fail
  go_ret
  exact ⟨rfl, h1.trans h2⟩

set_option maxHeartbeats 400000 in
theorem reader_two_no (p : Nat) (l : List UInt8) (hl : l.length < 2) (w : World) (hc : w.cell? ⟨p, 0, none⟩ = some (.string (bs l))) (hf : w.frozen? ⟨p, 0, none⟩ = false) :
    Calls Try.prog 59 #[.pointer (some ⟨p, 0, none⟩)] w fun e w' => e = .panicked shortPanic ∧ Only w w' p := by
  go_enter Try.func59, Try.ntmps59
  go_wp2_with fail
  match l, hl with
  | [], _ =>
    refine (reader_none p _ hc).mono ?_
    rintro e w1 ⟨rfl, h1⟩
    go_wp2_with fail
    exact ⟨rfl, rfl, h1⟩
  | [c], _ =>
    have hc1 := c.toNat_lt
    refine (reader_one p c _ _ hc hf).mono ?_
    rintro e w1 ⟨rfl, h1⟩
    go_wp2_with fail
    refine (reader_none p _ h1.2.1).mono ?_
    rintro e w2 ⟨rfl, h2⟩
    go_wp2_with fail
    exact ⟨rfl, rfl, h1.1.trans h2⟩
end Go.Proofs.Ytglifpoiildpfaa
