/- Maa: parts of the proofs, laid together. -/
import Derived.Deep.LoopGhost
import Derived.Deep.DeepMust
import Derived.Recover
import Derived.Defers
import Derived.Laws.Strings
import Derived.Deep.RegionHeld3
import Derived.Shelf.Small.Strs
import Derived.Test.YteojjbhadgkfgaaDoorMa
/- ticket.Bytes and the references' TicketBytes give the eight bytes of a small ticket. -/
namespace Go.Proofs.YteojjbhadgkfgaaDoor
set_option linter.unusedSimpArgs false
set_option linter.unusedVariables false
set_option maxRecDepth 100000
open Go Go.RowKit Lb

theorem info_byte : (Tryd.prog.info? 5).map (fun i => (i.zero, i.size, i.bytes)) = some (some (.int .u8 0), 1, 1) := by kernel_rfl

def bytes2 (l : List Int) : List Int := l.flatMap fun n => [n / 256, n % 256]

theorem bytes2_snoc (l : List Int) (k : Nat) (h : k < l.length) : bytes2 (l.take (k + 1)) = bytes2 (l.take k) ++ [l.getD k 0 / 256, l.getD k 0 % 256] := by
 rw [List.take_succ_eq_append_getElem h]
 simp only [bytes2, List.getD, h, List.flatMap_append, List.getElem?_eq_getElem, Option.getD_some]
 rfl

set_option maxHeartbeats 400000 in
theorem ticket_Bytes1 (l : List Int) (b pb : Nat) (c : Nat) (w : World) (hl : l.length ≤ 1000) (hr : ∀ i, i < l.length → 0 ≤ l.getD i 0 ∧ l.getD i 0 < 65536) (hb : b < w.heap.size) (hpb : pb < w.heap.size) (hne : b ≠ pb)
  (hc : ∀ i, i < l.length → w.cell? ⟨b, i, none⟩ = some (.int .i64 (l.getD i 0))) (hp : w.cell? ⟨pb, 0, none⟩ = some (.slice none 0 0)) (hpf : w.frozen? ⟨pb, 0, none⟩ = false) :
  Calls Tryd.prog 91 #[.slice (some ⟨b, 0, none⟩) l.length c, .pointer (some ⟨pb, 0, none⟩)] w fun e w' =>
   e = .returned (.tuple #[]) ∧ Only w w' pb ∧ ∃ v, w'.cell? ⟨pb, 0, none⟩ = some v ∧ w'.frozen? ⟨pb, 0, none⟩ = false ∧ w'.ownsRow w.heap.size 5 1 v (2 * l.length) ((bytes2 l).map (Value.int .u8)) := by
 obtain ⟨i0, hi, hz0, hz1, hz2⟩ := info_parts info_byte
 have hcH := Lib.hid hc
 have hrH := Lib.hid hr
 have hpH := Lib.hid hp
 have hpfH := Lib.hid hpf
 clear hc hr hp hpf
 go_enter Tryd.func91, Tryd.ntmps91
 go_wp2
 go_loopg [7] l.length (fun gg s7 wr => ∃ k : Nat, k ≤ l.length ∧ l.length - k ≤ gg ∧ s7 = .int .i64 k ∧ Aside (Only w wr pb ∧ ∃ v, wr.cell? ⟨pb, 0, none⟩ = some v ∧ wr.frozen? ⟨pb, 0, none⟩ = false ∧ wr.ownsRow w.heap.size 5 1 v (2 * k) ((bytes2 (l.take k)).map (Value.int .u8))))
 case atStart => exact ⟨0, Nat.zero_le _, by omega, rfl, Only.refl _ _, _, hpH.out, hpfH.out, World.ownsRow_nil _ _ _ _⟩
 case round =>
  obtain ⟨k, hk, hg, rfl, BW⟩ := hrel
  by_cases hlt : k < l.length
  ·obtain ⟨hgr, v, hv, hvf, hown⟩ := BW.out
   have hx : wr.cell? ⟨b, k, none⟩ = some (.int .i64 (l.getD k 0)) := by
    rw [hgr.cell hb hne]; exact hcH.out k hlt
   have hx0 := hrH.out k hlt
   generalize hX : l.getD k 0 = x at hx hx0
   obtain ⟨hx0, hx1⟩ := hx0
   have HX := Lib.hid hX
   have HG := Lib.hid hgr
   have HO := Lib.hid hown
   have hsz := hgr.size
   clear hgr BW hX hown
   go_wp2_with (at_builtin; refine wpList_append_own _ rfl _ _ 98 rfl w.heap.size 5 i0 (.int .u8 0) 1 1 Tryd.underlying98 hi hz0 hz1 hz2 rfl (by decide) v (2 * k) ((bytes2 (l.take k)).map (Value.int .u8)) rfl (HO.out.alloc _) ⟨wr.heap.size, 0, none⟩ 2 2 [.int .u8 (x / 256), .int .u8 (x % 256)] rfl rfl ?c1 ?c2 ?c3 ?c4 ?c5 ?_)
   case c1 => 
    intro j u hj
    match j, hj with
    | 0, hj => simp at hj; subst hj; simp [go_sem]
    | 1, hj => simp at hj; subst hj; simp [go_sem]
   case c2 => intro u hu; simp at hu; rcases hu with rfl | rfl <;> rfl
   case c3 => unfold maxLen; omega
   case c4 => omega
   case c5 => simp; omega
   intro v' w1 hown1 hgrow1 _
   obtain ⟨g, cap, hv', hgb, hgl⟩ := hown1.form (by omega)
   subst hv'
   have hne1 : some pb ≠ v.ownBlock := fun e => by have := HO.out.lt pb e.symm; omega
   have hb1 : w1.heap[pb]? = wr.heap[pb]? := (hgrow1.block pb (by simp; omega) hne1).trans (Below.heap_alloc _ _ _ (by omega))
   have hv1 : w1.cell? ⟨pb, 0, none⟩ = some v := (World.cell?_of_block hb1).trans hv
   have hvf1 : w1.frozen? ⟨pb, 0, none⟩ = false := (World.frozen?_of_block hb1).trans hvf
   have HN := Lib.hid hown1
   have HG1 := Lib.hid hgrow1
   clear hown1 hgrow1 hne1 hb1
   go_wp2
   go_roundg (l.length - (k + 1))
   case measure => omega
   case rel =>
    refine ⟨k + 1, by omega, by omega, by go_num, (HG.out.alloc _).own HG1.out (fun q e => (HO.out.lt q e).1) |>.setCell (.inl rfl) _, .slice (some ⟨g, 0, none⟩) (2 * k + 2) cap, ?_, ?_, ?_⟩
    ·simp [go_sem, hv1]
    ·simpa [go_sem] using hvf1
    ·rw [bytes2_snoc l k hlt, HX.out, List.map_append]
     exact ownsRow_setCell HN.out (by simp [Value.ownBlock]; omega) _
  ·have hk : k = l.length := by omega
   subst hk
   obtain ⟨hgr, v, hv, hvf, hown⟩ := BW.out
   clear BW
   have HG := Lib.hid hgr
   have HO := Lib.hid hown
   clear hgr hown
   go_wp2
   go_end0
   rw [List.take_length] at HO
   exact ⟨rfl, HG.out, v, hv, hvf, HO.out⟩

def tkBytes (t : Tk) : List Int := bytes2 [t.id, t.frm, t.til] ++ [t.kind * 16 + t.zones, t.rides]

def small (t : Tk) : Prop := 0 ≤ t.id ∧ t.id < 65536 ∧ 0 ≤ t.frm ∧ t.frm < 65536 ∧ 0 ≤ t.til ∧ t.til < 65536 ∧ 0 ≤ t.kind ∧ t.kind < 8 ∧ 0 ≤ t.zones ∧ t.zones < 16 ∧ 0 ≤ t.rides ∧ t.rides < 256

set_option maxHeartbeats 400000 in
theorem ticket_Bytes (t : Tk) (w : World) (hs : small t) :
  Calls Tryd.prog 77 #[.agg (tkc t)] w fun e w' => ∃ v, e = .returned v ∧ Ext w w' ∧ w'.ownsRow w.heap.size 5 1 v 8 ((tkBytes t).map (Value.int .u8)) := by
 obtain ⟨i0, hi, hz0, hz1, hz2⟩ := info_parts info_byte
 obtain ⟨a, b, c, d, e, f⟩ := t
 unfold tkc
 obtain ⟨h1, h1', h2, h2', h3, h3', h4, h4', h5, h5', h6, h6'⟩ := hs
 simp only at h1 h1' h2 h2' h3 h3' h4 h4' h5 h5' h6 h6'
 go_enter Tryd.func77, Tryd.ntmps77
 go_wp2_with (fail)
 refine (ticket_Bytes1 [a, c, d] (w.heap.size + 1 + 1) (w.heap.size + 1) 3 _ ?c1 ?c2 ?c3 ?c4 ?c5 ?c6 ?c7 ?c8).mono ?_
 case c1 => simp
 case c2 =>
  intro i hi
  match i, hi with
  | 0, _ => exact ⟨h1, h1'⟩
  | 1, _ => exact ⟨h2, h2'⟩
  | 2, _ => exact ⟨h3, h3'⟩
 case c3 => simp [go_sem]
 case c4 => simp [go_sem]
 case c5 => omega
 case c6 =>
  intro i hi
  match i, hi with
  | 0, _ => simp [go_sem]
  | 1, _ => simp [go_sem]
  | 2, _ => simp [go_sem]
 case c7 => simp [go_sem]
 case c8 => simp [go_sem]
 rintro e1 w1 ⟨rfl, ho, v, hv, hvf, hown⟩
 have hc0 : ∀ o, w1.cell? ⟨w.heap.size, o, none⟩ = #[Value.int IntKind.i64 a, .int .i64 b, .int .i64 c, .int .i64 d, .int .i64 e, .int .i64 f][o]? := fun o => by
  rw [ho.cell (by simp [go_sem]) (by omega)]
  simp [go_sem]
 have hE : Ext w w1 := Ext.only ((((Ext.refl _).alloc _).alloc _).alloc _) ho (by omega)
 have HO := Lib.hid (ownsRow_base (b2 := w.heap.size) hown (by simp; omega))
 have HE := Lib.hid hE
 have hsz := hE.size
 clear ho hown hE
 go_wp2_with (at_builtin; refine wpList_append_own _ rfl _ _ 98 rfl w.heap.size 5 i0 (.int .u8 0) 1 1 Tryd.underlying98 hi hz0 hz1 hz2 rfl (by decide) v (2 * [a, c, d].length) ((bytes2 [a, c, d]).map (Value.int .u8)) rfl (HO.out.alloc _) ⟨w1.heap.size, 0, none⟩ 2 2 [.int .u8 (b * 16 + e), .int .u8 f] rfl rfl ?c1 ?c2 ?c3 ?c4 ?c5 ?_)
 case c1 =>
  intro j u hj
  match j, hj with
  | 0, hj => simp at hj; subst hj; simp [go_sem]
  | 1, hj => simp at hj; subst hj; simp [go_sem]
 case c2 => intro u hu; simp at hu; rcases hu with rfl | rfl <;> rfl
 case c3 => unfold maxLen; simp
 case c4 => simp
 case c5 => simp; omega
 intro v' w2 hown2 hgrow2 _
 have HN := Lib.hid hown2
 have HG := Lib.hid hgrow2
 clear hown2 hgrow2
 go_wp2
 go_ret
 refine ⟨_, rfl, (HE.out.alloc _).grown HG.out (fun q e => (HO.out.lt q e).1), ?_⟩
 have := HN.out
 simpa [tkBytes] using this

set_option maxHeartbeats 400000 in
theorem ref_TicketBytes (t : Tk) (w : World) (hs : small t) :
  Calls Tryd.prog 62 #[.agg (tkc t)] w fun e w' => e = .returned (.string (strOfNums (tkBytes t))) ∧ Ext w w' := by
 obtain ⟨a, b, c, d, e, f⟩ := t
 unfold tkc
 obtain ⟨h1, h1', h2, h2', h3, h3', h4, h4', h5, h5', h6, h6'⟩ := hs
 simp only at h1 h1' h2 h2' h3 h3' h4 h4' h5 h5' h6 h6'
 go_enter Tryd.func62, Tryd.ntmps62
 go_wp2
 rw [conv_own (base := 0) (n := 8) (xs := [a / 256, a % 256, c / 256, c % 256, d / 256, d % 256, 16 * b + e, f])]
 ·go_wp2
  go_ret
  refine ⟨ret_string ?_, ((Ext.refl _).alloc _).alloc _⟩
  simp [tkBytes, bytes2, Int.mul_comm]
 ·exact ownsRow_new (by simp [go_sem]) rfl (Nat.zero_le _) (by unfold maxLen; omega) rfl
end Go.Proofs.YteojjbhadgkfgaaDoor

/- The reader of bytes: one byte, two bytes, or it gives up. -/
namespace Go.Proofs.YteojjbhadgkfgaaDoor
set_option linter.unusedSimpArgs false
set_option linter.unusedVariables false
open Go Go.RowKit Lb

def bs (l : List UInt8) : ByteArray := ⟨l.toArray⟩
theorem bs_size (l : List UInt8) : (bs l).size = l.length := by simp [bs, ByteArray.size]
theorem bs_nil : (bs []).toList.isEmpty = true := by rw [ByteArray.toList_eq]; simp [bs]
/-- Only the reader's cell has turned; it holds the bytes l. -/
def Rdr (w w' : World) (p : Nat) (l : List UInt8) : Prop :=
 Only w w' p ∧ w'.cell? ⟨p, 0, none⟩ = some (.string (bs l)) ∧ w'.frozen? ⟨p, 0, none⟩ = false ∧ w'.heap.size = w.heap.size

theorem Rdr.trans {a b c : World} {p : Nat} {l m : List UInt8} (h : Rdr a b p l) (k : Rdr b c p m) : Rdr a c p m :=
 ⟨h.1.trans k.1, k.2.1, k.2.2.1, k.2.2.2.trans h.2.2.2⟩

theorem Rdr.cells {a b : World} {p : Nat} {l : List UInt8} (h : Rdr a b p l) : ∀ q o, q < a.heap.size → q ≠ p → b.cell? ⟨q, o, none⟩ = a.cell? ⟨q, o, none⟩ := fun _ o hq hn => h.1.cell hq hn o
theorem Rdr.frozs {a b : World} {p : Nat} {l : List UInt8} (h : Rdr a b p l) : ∀ q o, q < a.heap.size → q ≠ p → b.frozen? ⟨q, o, none⟩ = a.frozen? ⟨q, o, none⟩ := fun _ o hq hn => h.1.froz hq hn o

end Go.Proofs.YteojjbhadgkfgaaDoor

/- The reader makes a ticket of just eight bytes. -/
namespace Go.Proofs.YteojjbhadgkfgaaDoor
set_option linter.unusedSimpArgs false
set_option linter.unusedVariables false
open Go Go.RowKit Lb

end Go.Proofs.YteojjbhadgkfgaaDoor

/- The reader gives up wherever there are not just eight bytes. -/
namespace Go.Proofs.YteojjbhadgkfgaaDoor
set_option linter.unusedSimpArgs false
set_option linter.unusedVariables false
open Go Go.RowKit Lb

end Go.Proofs.YteojjbhadgkfgaaDoor

/- ticket.told recovers: a ticket of eight bytes, else none. -/
namespace Go.Proofs.YteojjbhadgkfgaaDoor
set_option linter.unusedSimpArgs false
set_option linter.unusedVariables false
open Go Go.RowKit Lb

end Go.Proofs.YteojjbhadgkfgaaDoor

namespace Go.Proofs.YteojjbhadgkfgaaDoor
set_option linter.unusedSimpArgs false
set_option linter.unusedVariables false
set_option maxRecDepth 100000
open Go Go.RowKit Lb

end Go.Proofs.YteojjbhadgkfgaaDoor

namespace Go.Proofs.YteojjbhadgkfgaaDoor
set_option linter.unusedSimpArgs false
set_option linter.unusedVariables false
set_option maxRecDepth 100000
open Go Go.RowKit Lb

theorem small_of_ok {t : Tk} (h : ckTicket t = 0) : small t := by
 unfold ckTicket at h
 unfold small
 repeat' split at h
 all_goals simp [within] at *
 all_goals omega

theorem strOfNums_bs (l : List Int) : strOfNums l = bs (l.map fun n => UInt8.ofNat n.toNat) := rfl

end Go.Proofs.YteojjbhadgkfgaaDoor

/- Signs, their values, and the mark: the plain side. -/
namespace Go.Proofs.YteojjbhadgkfgaaDoor
set_option linter.unusedSimpArgs false
set_option linter.unusedVariables false
set_option maxRecDepth 100000
open Go Lb

def signs : List UInt8 := [48, 49, 50, 51, 52, 53, 54, 55, 56, 57, 65, 66, 67, 68, 69, 70, 71, 72, 74, 75, 76, 77, 78, 80, 81, 82, 83, 84, 85, 86, 87]
theorem signs_len : signs.length = 31 := rfl
/-- the place of a sign; -1: it is none -/
def valueOf (c : UInt8) : Int := match signs.findIdx? (· == c) with
 | some k => (k : Int)
 | none => -1
def areSigns (l : List UInt8) : Bool := l.all fun c => decide (0 ≤ valueOf c)
/-- the weighted sum from weight k on -/
def markSum (k : Int) : List UInt8 → Int
 | [] => 0
 | c :: l => valueOf c * k + markSum (k + 1) l
def markVal (l : List UInt8) : Int := (31 - markSum 2 l % 31) % 31
def markSign (l : List UInt8) : UInt8 := signs.getD (markVal l).toNat 0
theorem valueOf_lt (c : UInt8) : -1 ≤ valueOf c ∧ valueOf c < 31 := by
 unfold valueOf
 split
 ·rename_i k h
  have := (List.findIdx?_eq_some_iff_getElem.1 h).1
  rw [signs_len] at this
  omega
 ·omega
theorem valueOf_sign : ∀ k, k < 31 → valueOf (signs.getD k 0) = (k : Int) := by decide +kernel
theorem sign_valueOf {c : UInt8} (h : 0 ≤ valueOf c) : signs.getD (valueOf c).toNat 0 = c := by
 unfold valueOf at h ⊢
 split
 ·rename_i k hk
  obtain ⟨h1, h2, -⟩ := List.findIdx?_eq_some_iff_getElem.1 hk
  have h2 : signs[k] = c := by simpa using h2
  simp only [Int.toNat_natCast]
  rw [List.getD_eq_getElem?_getD, List.getElem?_eq_getElem h1, Option.getD_some, h2]
 ·rename_i hk
  simp [hk] at h
theorem markVal_lt (l : List UInt8) : 0 ≤ markVal l ∧ markVal l < 31 := by
 unfold markVal; omega
end Go.Proofs.YteojjbhadgkfgaaDoor

/- ref.ValueOf and strings.IndexByte over the signs. -/
namespace Go.Proofs.YteojjbhadgkfgaaDoor
set_option linter.unusedSimpArgs false
set_option linter.unusedVariables false
set_option maxRecDepth 100000
open Go Go.RowKit Lb

theorem valueOf_hit {c : UInt8} {k : Nat} (hk : k < 31) (h0 : ∀ j, j < k → (signs.getD j 0 == c) = false) (h : (signs.getD k 0 == c) = true) : valueOf c = (k : Int) := by
 have := eq_of_beq h
 rw [← this]
 exact valueOf_sign k hk
theorem valueOf_miss {c : UInt8} (h0 : ∀ j, j < 31 → (signs.getD j 0 == c) = false) : valueOf c = -1 := by
 by_cases h : 0 ≤ valueOf c
 ·have h1 := sign_valueOf h
  have h2 := h0 (valueOf c).toNat (by have := (valueOf_lt c).2; omega)
  rw [h1] at h2
  simp at h2
 ·have := (valueOf_lt c).1; omega

theorem beq_u8 (a c : UInt8) : ((a.toNat : Int) == (c.toNat : Int)) = (a == c) := by
 by_cases h : a = c
 ·subst h; simp
 ·have h2 : ¬ (a.toNat : Int) = (c.toNat : Int) := by
   intro e; exact h (UInt8.toNat_inj.1 (by omega))
  rw [beq_eq_false_iff_ne.2 h, beq_eq_false_iff_ne.2 h2]
theorem sign_get (k : Nat) (h : k < 31) : signs[k]'h = signs.getD k 0 := by
 rw [List.getD_eq_getElem?_getD, List.getElem?_eq_getElem (h := h), Option.getD_some]

set_option maxHeartbeats 2000000 in
theorem ref_ValueOf (c : UInt8) (w : World) :
  Calls Tryd.prog 83 #[.int .u8 c.toNat] w fun e w' => e = .returned (.int .i64 (valueOf c)) ∧ w = w' := by
 go_enter Tryd.func83, Tryd.ntmps83
 go_wp2
 go_loopg [2, 3] 31 (fun gg _ s3 wr => wr = w ∧ ∃ k : Nat, k ≤ 31 ∧ 31 - k ≤ gg ∧ s3 = .int .i64 k ∧ Aside (∀ j, j < k → (signs.getD j 0 == c) = false))
 case atStart => exact ⟨rfl, 0, by omega, by omega, rfl, fun j hj => by omega⟩
 case round =>
  obtain ⟨rfl, k, hk, hg, rfl, HA⟩ := hrel
  by_cases hlt : k < 31
  ·have hlt' : (k : Int) < 31 := by omega
   go_wp2
   ·rename_i hh
    have hh : (((signs[k]'hlt).toNat : Int) == (c.toNat : Int)) = true := hh
    rw [beq_u8, sign_get k hlt] at hh
    go_ret
    exact ⟨ret_int (valueOf_hit hlt HA.out hh).symm, rfl⟩
   ·rename_i hh
    have hh : (((signs[k]'hlt).toNat : Int) == (c.toNat : Int)) = false := hh
    rw [beq_u8, sign_get k hlt] at hh
    go_roundg (31 - (k + 1))
    case measure => omega
    case rel =>
     refine ⟨rfl, k + 1, by omega, by omega, by go_num, fun j hj => ?_⟩
     by_cases e : j = k
     ·subst e; exact hh
     ·exact HA.out j (by omega)
  ·have hge : ¬ (k : Int) < 31 := by omega
   have hk31 : k = 31 := by omega
   have HK := Lib.hid hk31
   clear hk31
   go_wp2
   go_ret
   exact ⟨ret_int (valueOf_miss (fun j hj => HA.out j (by have := HK.out; omega))).symm, rfl⟩
end Go.Proofs.YteojjbhadgkfgaaDoor

/- ref.AreSigns. -/
namespace Go.Proofs.YteojjbhadgkfgaaDoor
set_option linter.unusedSimpArgs false
set_option linter.unusedVariables false
set_option maxRecDepth 100000
open Go Go.RowKit Lb

end Go.Proofs.YteojjbhadgkfgaaDoor

/- ref.MarkOf. -/
namespace Go.Proofs.YteojjbhadgkfgaaDoor
set_option linter.unusedSimpArgs false
set_option linter.unusedVariables false
set_option maxRecDepth 100000
open Go Go.RowKit Lb

theorem mark_hit {S : Int} {v : Nat} (hv : v < 31) (h : Int.tmod (S + v) 31 = 0) : (31 - S % 31) % 31 = v := by
 have := Int.dvd_of_tmod_eq_zero h
 omega
theorem mark_miss {S : Int} (h : ∀ j : Nat, j < 31 → ¬ Int.tmod (S + j) 31 = 0) : False := by
 have h1 := h ((31 - S % 31) % 31).toNat (by omega)
 exact h1 (Int.tmod_eq_zero_of_dvd (by omega))
theorem sign_slice : ∀ v, v < 31 → (bs signs).extract v (v + 1) = bs [signs.getD v 0] := by decide +kernel

set_option maxHeartbeats 2000000 in
theorem ref_MarkOf (l : List UInt8) (hl : l.length ≤ 20) (w : World) :
  Calls Tryd.prog 63 #[.string (bs l)] w fun e w' => e = .returned (.string (bs [markSign l])) ∧ w = w' := by
 have hsz := bs_size l
 have hv := fun c w => ref_ValueOf c w
 have HVO := Lib.hid hv
 clear hv
 go_enter Tryd.func63, Tryd.ntmps63
 go_wp2
 go_loopg [3, 4] l.length (fun gg s3 s4 wr => wr = w ∧ ∃ (k : Nat) (n : Int), k ≤ l.length ∧ l.length - k ≤ gg ∧ s3 = .int .i64 n ∧ s4 = .int .i64 k ∧ Aside (n + markSum (2 + k) (l.drop k) = markSum 2 l) ∧ Aside (-660 * (k : Int) ≤ n ∧ n ≤ 660 * k))
 case atStart => exact ⟨rfl, 0, 0, by omega, by omega, rfl, rfl, by simp [Aside], by simp [Aside]⟩
 case round =>
  obtain ⟨rfl, k, n, hk, hg, rfl, rfl, HA, HB⟩ := hrel
  by_cases hlt : k < l.length
  ·have hlt' : (k : Int) < ((bs l).size : Int) := by omega
   have hltn : k < (bs l).size := by omega
   have hdr := List.drop_eq_getElem_cons hlt
   have hget : (bs l)[k]'hltn = l[k] := rfl
   have hA := HA.out
   rw [hdr] at hA
   generalize hx : l[k] = x at hget hA
   have hA2 : n + (valueOf x * (2 + k) + markSum (2 + k + 1) (l.drop (k + 1))) = markSum 2 l := hA
   have hyb := valueOf_lt x
   generalize hy : valueOf x = y at hA2 hyb
   have HY := Lib.hid hy
   have hk20 : (k : Int) ≤ 19 := by omega
   have hk0 : (0 : Int) ≤ k := by omega
   have hb1 : y * ((k : Int) + 2) ≤ 30 * 21 := Int.le_trans (Int.mul_le_mul_of_nonneg_right (show y ≤ 30 by omega) (by omega)) (by omega)
   have hb0 : -21 ≤ y * ((k : Int) + 2) := Int.le_trans (by omega) (Int.mul_le_mul_of_nonneg_right (show -1 ≤ y by omega) (show 0 ≤ (k : Int) + 2 by omega))
   have hn := HB.out
   have hA3 : n + y * ((k : Int) + 2) + markSum (2 + ((k + 1 : Nat) : Int)) (l.drop (k + 1)) = markSum 2 l := by
    rw [← hA2, show (2 : Int) + k = k + 2 by omega, show (2 : Int) + ((k + 1 : Nat) : Int) = k + 2 + 1 by omega]; omega
   have HA3 := Lib.hid hA3
   clear hA hA2 hdr hx hy HA hA3 HB
   generalize hM : y * ((k : Int) + 2) = M at *
   have hn1 : n + M ≤ 20000 := by omega
   have hn2 : -20000 ≤ n + M := by omega
   go_wp2_with (go_at_call 83; refine ((HVO.out x _).mono ?_); rintro e w1 ⟨rfl, rfl⟩; rw [HY.out])
   go_roundg (l.length - (k + 1))
   case measure => omega
   case rel =>
    exact ⟨rfl, k + 1, n + M, by omega, by omega, rfl, by go_num, HA3.out, by constructor <;> omega⟩
  ·have hge : ¬ (k : Int) < ((bs l).size : Int) := by omega
   have hkl : k = l.length := by omega
   have hS : n = markSum 2 l := by
    have := HA.out
    rw [hkl, List.drop_length] at this
    simpa [markSum] using this
   have hn := HB.out
   have hn1 : n ≤ 20000 := by omega
   have hn2 : -20000 ≤ n := by omega
   have HS := Lib.hid hS
   clear hkl hS HA HB hn
   go_wp2
   go_loopg [2, 5] 31 (fun gg _ s5 w2 => w2 = wr ∧ ∃ v : Nat, v ≤ 31 ∧ 31 - v ≤ gg ∧ s5 = .int .i64 v ∧ Aside (∀ j : Nat, j < v → ¬ Int.tmod (n + j) 31 = 0))
   case atStart => exact ⟨rfl, 0, by omega, by omega, rfl, fun j hj => by omega⟩
   case round =>
    obtain ⟨rfl, v, hv, hgv, rfl, HV⟩ := hrel
    by_cases hv31 : v < 31
    ·have hv31' : (v : Int) < 31 := by omega
     by_cases ht : Int.tmod (n + v) 31 = 0
     ·have hmk := sign_slice v hv31
      go_wp2
      go_ret
      have hm1 : markVal l = v := by
       unfold markVal
       rw [← HS.out]
       exact mark_hit hv31 ht
      have hm2 : markSign l = signs.getD v 0 := by
       unfold markSign
       rw [hm1, Int.toNat_natCast]
      refine ⟨?_, rfl⟩
      rw [hm2, ← hmk]
      rfl
     ·have htb : (Int.tmod (n + v) 31 == 0) = false := by simpa using ht
      go_wp2
      go_roundg (31 - (v + 1))
      case measure => omega
      case rel =>
       refine ⟨rfl, v + 1, by omega, by omega, by go_num, fun j hj => ?_⟩
       by_cases e : j = v
       ·subst e; exact ht
       ·exact HV.out j (by omega)
    ·exact absurd (mark_miss (S := n) fun j hj => HV.out j (by omega)) (fun h => h)
end Go.Proofs.YteojjbhadgkfgaaDoor

/- strings.IndexByte, laid from the shelf in plain words; over the signs it is valueOf. -/
namespace Go.Proofs.YteojjbhadgkfgaaDoor
set_option linter.unusedSimpArgs false
set_option linter.unusedVariables false
set_option maxRecDepth 100000
open Go Go.RowKit Go.Shelf Lb

def ixRen : Go.Shelf.Ren := ⟨fun | 137 => 102 | 217 => 108 | 266 => 111 | n => n, fun | 9 => 9 | 5 => 5 | 3 => 3 | n => n, fun | n => n⟩
theorem ixLays : Go.Proofs.Lays.n137 Tryd.prog ixRen := {
 mixed := by kernel_rfl
 f137 := Tryd.func102.trans (congrArg some (by kernel_rfl))
 f217 := Tryd.func108.trans (congrArg some (by kernel_rfl))
 f266 := Tryd.func111.trans (congrArg some (by kernel_rfl))
 t3 := Tryd.underlying3
 a3 := Tryd.isAgg3
 z3 := Tryd.sizeOf3
 v3 := Tryd.zeroValue3
 t5 := Tryd.underlying5
 a5 := Tryd.isAgg5
 z5 := Tryd.sizeOf5
 v5 := Tryd.zeroValue5
 t9 := Tryd.underlying9
 a9 := Tryd.isAgg9
 z9 := Tryd.sizeOf9
 v9 := Tryd.zeroValue9 }

theorem idx_byte (s : ByteArray) (c : UInt8) (w : World) :
  Calls Tryd.prog 102 #[.string s, .int .u8 c.toNat] w fun e w' => e = .returned (.int .i64 (Lib.indexByte s.data.toList c)) ∧ w' = w := by
 have h := Any.strings_IndexByte ixLays s c.toNat w
 rw [show ((c.toNat : Int).toNat.toUInt8) = c by simp] at h
 exact h
theorem indexByte_find (l : List UInt8) (c : UInt8) : Lib.indexByte l c = match l.findIdx? (· == c) with
  | some k => (k : Int)
  | none => -1 := by
 induction l with
 | nil => rfl
 | cons b l ih =>
  simp only [Lib.indexByte, List.findIdx?_cons]
  cases hb : (b == c)
  ·simp only [Bool.false_eq_true, if_false]
   rw [ih]
   cases h : l.findIdx? (· == c) with
   | none => simp
   | some k =>
    have : ((k : Int) == -1) = false := by
     rw [beq_eq_false_iff_ne]; omega
    simp [this]
  ·simp
theorem indexByte_signs (c : UInt8) : Lib.indexByte signs c = valueOf c := indexByte_find signs c
theorem idx_sign (c : UInt8) (w : World) :
  Calls Tryd.prog 102 #[.string ⟨#[48, 49, 50, 51, 52, 53, 54, 55, 56, 57, 65, 66, 67, 68, 69, 70, 71, 72, 74, 75, 76, 77, 78, 80, 81, 82, 83, 84, 85, 86, 87]⟩, .int .u8 c.toNat] w fun e w' => e = .returned (.int .i64 (valueOf c)) ∧ w' = w := by
 have h := idx_byte (bs signs) c w
 rw [show (bs signs).data.toList = signs from rfl, indexByte_signs] at h
 exact h
end Go.Proofs.YteojjbhadgkfgaaDoor

/- code.values. -/
namespace Go.Proofs.YteojjbhadgkfgaaDoor
set_option linter.unusedSimpArgs false
set_option linter.unusedVariables false
set_option maxRecDepth 100000
open Go Go.RowKit Lb

theorem info_int : (Tryd.prog.info? 3).map (fun i => (i.zero, i.size, i.bytes)) = some (some (.int .i64 0), 1, 8) := by kernel_rfl
def vals (l : List UInt8) : List Value := l.map fun c => .int .i64 (valueOf c)
theorem areSigns_snoc (l : List UInt8) (k : Nat) (h : k < l.length) : areSigns (l.take (k + 1)) = (areSigns (l.take k) && decide (0 ≤ valueOf l[k])) := by
 unfold areSigns
 rw [List.take_succ_eq_append_getElem h, List.all_append]
 simp only [List.all_cons, List.all_nil, Bool.and_true]
theorem vals_snoc (l : List UInt8) (k : Nat) (h : k < l.length) : vals (l.take (k + 1)) = vals (l.take k) ++ [.int .i64 (valueOf l[k])] := by
 unfold vals
 rw [List.take_succ_eq_append_getElem h, List.map_append]
 rfl
theorem areSigns_bad {l : List UInt8} {k : Nat} (h : k < l.length) (hv : valueOf l[k] < 0) : areSigns l = false := by
 unfold areSigns
 rw [List.all_eq_false]
 exact ⟨l[k], List.getElem_mem h, by simp; omega⟩

set_option maxHeartbeats 4000000 in
theorem code_values (l : List UInt8) (hl : l.length ≤ 1048576) (w : World) :
  Calls Tryd.prog 92 #[.string (bs l)] w fun e w' => Ext w w' ∧ ((areSigns l = false ∧ e = .returned (.tuple #[.slice none 0 0, .bool false])) ∨
   (areSigns l = true ∧ ∃ v, e = .returned (.tuple #[v, .bool true]) ∧ w'.ownsRow w.heap.size 3 1 v l.length (vals l))) := by
 obtain ⟨i0, hi, hz0, hz1, hz2⟩ := info_parts info_int
 have hsz := bs_size l
 have hx := fun c w => idx_sign c w
 have HX := Lib.hid hx
 clear hx
 go_enter Tryd.func92, Tryd.ntmps92
 go_wp2
 go_loopg [2, 3, 4, 5, 6, 9] l.length (fun gg _ _ s4 _ _ s9 wr => ∃ (k : Nat), k ≤ l.length ∧ l.length - k ≤ gg ∧ s9 = .int .i64 k ∧ Aside (areSigns (l.take k) = true) ∧ Aside (Ext w wr ∧ wr.ownsRow w.heap.size 3 1 s4 k (vals (l.take k))))
 case atStart => exact ⟨0, by omega, by omega, rfl, rfl, Ext.refl _, World.ownsRow_nil _ _ _ _⟩
 case round =>
  obtain ⟨k, hk, hg, rfl, HA, HB⟩ := hrel
  by_cases hlt : k < l.length
  ·have hlt' : (k : Int) < (l.length : Int) := by omega
   have hltn : k < (bs l).size := by omega
   have hget : (bs l)[k]'hltn = l[k] := rfl
   have has := areSigns_snoc l k hlt
   have hvs := vals_snoc l k hlt
   have hbad := areSigns_bad (l := l) (k := k) hlt
   rw [HA.out, Bool.true_and] at has
   generalize l[k] = x at hget has hvs hbad
   generalize hy : valueOf x = y at has hvs hbad
   have HY := Lib.hid hy
   have HAS := Lib.hid has
   have HVS := Lib.hid hvs
   have HBD := Lib.hid hbad
   have hsz1 := HB.out.1.size
   clear has hvs hbad hy HA
   by_cases hy0 : y < 0
   ·go_wp2_with (go_at_call 102; refine ((HX.out x _).mono ?_); rintro e w1 ⟨rfl, rfl⟩; rw [HY.out])
    go_ret2
    exact ⟨HB.out.1, .inl ⟨HBD.out hy0, rfl⟩⟩
   ·obtain ⟨v, rfl⟩ : ∃ v, v = u4 := ⟨u4, rfl⟩
    have HO : Hid (wr.ownsRow w.heap.size 3 1 v k (vals (l.take k))) := HB.out.2
    go_wp2_with (first | (go_at_call 102; refine ((HX.out x _).mono ?_); rintro e w1 ⟨rfl, rfl⟩; rw [HY.out]) | (at_builtin; refine wpList_append_own _ rfl _ _ 24 rfl w.heap.size 3 i0 (.int .i64 0) 1 8 Tryd.underlying24 hi hz0 hz1 hz2 rfl (by decide) v k (vals (l.take k)) rfl (HO.out.alloc _) ⟨w1.heap.size, 0, none⟩ 1 1 [.int .i64 y] rfl rfl ?c1 ?c2 ?c3 ?c4 ?c5 ?_))
    case c1 =>
     intro j u hj
     match j, hj with
     | 0, hj => simp at hj; subst hj; simp [go_sem]
     | j + 1, hj => simp at hj
    case c2 => intro u hu; simp at hu; subst hu; rfl
    case c3 => unfold maxLen; omega
    case c4 => omega
    case c5 => simp; omega
    intro v' w2 hown hgrow _
    have HN := Lib.hid hown
    have HG := Lib.hid hgrow
    clear hown hgrow
    go_wp2
    go_roundg (l.length - (k + 1))
    case measure => omega
    case rel =>
     refine ⟨k + 1, by omega, by omega, by go_num, ?_, ?_, ?_⟩
     ·rw [HAS.out]; exact decide_eq_true (by omega)
     ·exact (HB.out.1.alloc _).grown HG.out (fun q e => (HO.out.lt q e).1)
     ·rw [HVS.out]; exact HN.out
  ·have hkl : k = l.length := by omega
   have hge : ¬ (k : Int) < (l.length : Int) := by omega
   have hA := HA.out
   have hO := HB.out.2
   have HE := Lib.hid HB.out.1
   subst hkl
   rw [List.take_length] at hA hO
   have HA2 := Lib.hid hA
   have HO2 := Lib.hid hO
   clear hA hO HA HB
   go_wp2
   go_ret2
   exact ⟨HE.out, .inr ⟨HA2.out, _, rfl, HO2.out⟩⟩
end Go.Proofs.YteojjbhadgkfgaaDoor

/- code.mark. -/
namespace Go.Proofs.YteojjbhadgkfgaaDoor
set_option linter.unusedSimpArgs false
set_option linter.unusedVariables false
set_option maxRecDepth 100000
open Go Go.RowKit Lb

theorem vals_rd {w : World} {base : Nat} {v : Value} {l : List UInt8} (h : w.ownsRow base 3 1 v l.length (vals l)) : RdL 1 inc w v (l.map valueOf) := by
 have h2 : OwnL 3 1 inc base w v (l.map valueOf) := by
  unfold OwnL
  rw [encs_inc, List.length_map]
  simpa [vals, Function.comp_def] using h
 exact h2.rd inc_size
theorem sign_all {l : List UInt8} (h : areSigns l = true) (k : Nat) (hk : k < l.length) : 0 ≤ valueOf l[k] := by
 unfold areSigns at h
 rw [List.all_eq_true] at h
 simpa using h l[k] (List.getElem_mem hk)
theorem sign_slice' (v : Nat) (h : v < 31) : ByteArray.extract ⟨#[48, 49, 50, 51, 52, 53, 54, 55, 56, 57, 65, 66, 67, 68, 69, 70, 71, 72, 74, 75, 76, 77, 78, 80, 81, 82, 83, 84, 85, 86, 87]⟩ v (v + 1) = bs [signs.getD v 0] := sign_slice v h

set_option maxHeartbeats 2000000 in
theorem code_mark (l : List UInt8) (hl : l.length ≤ 20) (ha : areSigns l = true) (w : World) :
  Calls Tryd.prog 78 #[.string (bs l)] w fun e w' => e = .returned (.string (bs [markSign l])) ∧ Ext w w' := by
 have hc := fun w => code_values l (by omega) w
 have HC := Lib.hid hc
 have HA := Lib.hid ha
 clear hc ha
 go_enter Tryd.func78, Tryd.ntmps78
 go_wp2_with fail
 refine (HC.out _).mono ?_
 rintro e w1 ⟨h1, h2 | ⟨-, v, rfl, h2⟩⟩
 ·exact absurd (h2.1.symm.trans HA.out) (by decide)
 obtain ⟨A, c, rfl, -, -, h3⟩ := vals_rd h2
 rw [List.length_map] at h3 ⊢
 have H1 := Lib.hid h1
 have H3 := Lib.hid h3
 clear h1 h2 h3
 go_wp2_with fail
 go_loopg [5, 6, 7, 16] l.length (fun gg s5 _ _ s16 wr => wr = w1 ∧ ∃ (k : Nat) (n : Int), k ≤ l.length ∧ l.length - k ≤ gg ∧ s5 = .int .i64 n ∧ s16 = .int .i64 k ∧ Aside (n + markSum (2 + k) (l.drop k) = markSum 2 l) ∧ Aside (0 ≤ n ∧ n ≤ 660 * k))
 case atStart => exact ⟨rfl, 0, 0, by omega, by omega, rfl, rfl, by simp [Aside], by simp [Aside]⟩
 case round =>
  obtain ⟨rfl, k, n, hk, hg, rfl, rfl, HM, HB⟩ := hrel
  by_cases hlt : k < l.length
  ·have hlt' : (k : Int) < (l.length : Int) := by omega
   obtain ⟨b, o, rfl, hb, hc⟩ := H3.out (by omega)
   have hx := hc k hlt 0 (.int .i64 (valueOf l[k])) (by simp [inc, hlt])
   simp only [Nat.mul_one, Nat.add_zero] at hx
   clear hc
   have hdr := List.drop_eq_getElem_cons hlt
   have hA := HM.out
   rw [hdr] at hA
   have hy0 := sign_all HA.out k hlt
   have hyb := (valueOf_lt l[k]).2
   have hA2 : n + (valueOf l[k] * (2 + k) + markSum (2 + k + 1) (l.drop (k + 1))) = markSum 2 l := hA
   generalize valueOf l[k] = y at hA2 hyb hy0 hx
   have hk20 : (k : Int) ≤ 19 := by omega
   have hk0 : (0 : Int) ≤ k := by omega
   have hb1 : y * ((k : Int) + 2) ≤ 30 * 21 := Int.le_trans (Int.mul_le_mul_of_nonneg_right (show y ≤ 30 by omega) (by omega)) (by omega)
   have hb0 : 0 ≤ y * ((k : Int) + 2) := Int.mul_nonneg hy0 (by omega)
   have hn := HB.out
   have hA3 : n + y * ((k : Int) + 2) + markSum (2 + ((k + 1 : Nat) : Int)) (l.drop (k + 1)) = markSum 2 l := by
    rw [← hA2, show (2 : Int) + k = k + 2 by omega, show (2 : Int) + ((k + 1 : Nat) : Int) = k + 2 + 1 by omega]; omega
   have HA3 := Lib.hid hA3
   clear hA hA2 hdr HM hA3 HB
   generalize hM : y * ((k : Int) + 2) = M at *
   have hn1 : n + M ≤ 20000 := by omega
   have hn2 : 0 ≤ n + M := by omega
   go_wp2_with fail
   go_roundg (l.length - (k + 1))
   case measure => omega
   case rel =>
    exact ⟨rfl, k + 1, n + M, by omega, by omega, rfl, by go_num, HA3.out, by constructor <;> omega⟩
  ·have hge : ¬ (k : Int) < (l.length : Int) := by omega
   have hkl : k = l.length := by omega
   have hS : n = markSum 2 l := by
    have := HM.out
    rw [hkl, List.drop_length] at this
    simpa [markSum] using this
   have hn := HB.out
   have hn1 : n ≤ 20000 := by omega
   have hn2 : 0 ≤ n := by omega
   have hm1 : (31 - n % 31) % 31 = markVal l := by unfold markVal; rw [hS]
   have hmb := markVal_lt l
   obtain ⟨m, hm⟩ := Int.eq_ofNat_of_zero_le hmb.1
   have hm31 : m < 31 := by omega
   have hms : markSign l = signs.getD m 0 := by unfold markSign; rw [hm]; rfl
   have HMS := Lib.hid hms
   have hm2 : (31 - n % 31) % 31 = (m : Int) := by rw [hm1]; exact hm
   have hsl := sign_slice' m hm31
   have HS := Lib.hid hS
   clear hkl hS HM HB hn hmb hm hms hm1
   have hm31' : (m : Int) < 31 := by omega
   go_wp2_with fail
   go_ret
   exact ⟨by rw [HMS.out]; rfl, H1.out⟩
end Go.Proofs.YteojjbhadgkfgaaDoor

/- A ticket's number, its digits, its code: the plain side. -/
namespace Go.Proofs.YteojjbhadgkfgaaDoor
set_option linter.unusedSimpArgs false
set_option linter.unusedVariables false
set_option maxRecDepth 100000
open Go Lb

def numFrom (a : Int) : List Int → Int
 | [] => a
 | b :: l => numFrom (256 * a + b) l
def sgn (n : Int) : UInt8 := signs.getD n.toNat 0
/-- m digits more of N, the least first, ahead of s -/
def cd : Nat → Int → List UInt8 → List UInt8
 | 0, _, s => s
 | m + 1, N, s => cd m (N / 31) (sgn (N % 31) :: s)
def codeDigs (t : Tk) : List UInt8 := cd 13 (numFrom 0 (tkBytes t)) []
def codeOf (t : Tk) : List UInt8 := codeDigs t ++ [markSign (codeDigs t)]

/-- bytes divided by 31 -/
def divs : Int → List Int → List Int
 | _, [] => []
 | r, b :: l => (256 * r + b) / 31 :: divs ((256 * r + b) % 31) l
def rest : Int → List Int → Int
 | r, [] => r
 | r, b :: l => rest ((256 * r + b) % 31) l
def byteL (l : List Int) : Prop := ∀ x ∈ l, 0 ≤ x ∧ x < 256
theorem divs_length (r : Int) (l : List Int) : (divs r l).length = l.length := by
 induction l generalizing r with
 | nil => rfl
 | cons b l ih => simp [divs, ih]
theorem divs_num (q r : Int) (l : List Int) : numFrom (31 * q + r) l = 31 * numFrom q (divs r l) + rest r l := by
 induction l generalizing q r with
 | nil => rfl
 | cons b l ih =>
  simp only [numFrom, divs, rest]
  rw [← ih]
  congr 1
  omega
theorem rest_lt (r : Int) (l : List Int) (h0 : 0 ≤ r) (h1 : r < 31) : 0 ≤ rest r l ∧ rest r l < 31 := by
 induction l generalizing r with
 | nil => exact ⟨h0, h1⟩
 | cons b l ih => exact ih _ (by omega) (by omega)
theorem divs_bytes (r : Int) (l : List Int) (h0 : 0 ≤ r) (h1 : r < 31) (hl : byteL l) : byteL (divs r l) := by
 induction l generalizing r with
 | nil => intro x hx; cases hx
 | cons b l ih =>
  have hb := hl b (by simp)
  intro x hx
  rcases List.mem_cons.1 hx with rfl | hx
  ·omega
  ·exact ih _ (by omega) (by omega) (fun y hy => hl y (by simp [hy])) x hx
theorem num_divs (l : List Int) : numFrom 0 (divs 0 l) = numFrom 0 l / 31 ∧ rest 0 l = numFrom 0 l % 31 := by
 have h := divs_num 0 0 l
 have h2 := rest_lt 0 l (by omega) (by omega)
 rw [show (31 * 0 + 0 : Int) = 0 from rfl] at h
 omega
theorem numFrom_append (a : Int) (l m : List Int) : numFrom a (l ++ m) = numFrom (numFrom a l) m := by
 induction l generalizing a with
 | nil => rfl
 | cons b l ih => simp only [List.cons_append, numFrom, ih]
theorem numFrom_bound (a : Int) (l : List Int) (h0 : 0 ≤ a) (hl : byteL l) : 0 ≤ numFrom a l ∧ numFrom a l < (a + 1) * 256 ^ l.length := by
 induction l generalizing a with
 | nil => simp [numFrom]; omega
 | cons b l ih =>
  have hb := hl b (by simp)
  have h := ih (256 * a + b) (by omega) (fun y hy => hl y (by simp [hy]))
  refine ⟨h.1, Int.lt_of_lt_of_le h.2 ?_⟩
  rw [List.length_cons, Int.pow_succ, Int.mul_comm (256 ^ l.length) 256, ← Int.mul_assoc]
  exact Int.mul_le_mul_of_nonneg_right (by omega) (Int.pow_nonneg (by omega))
theorem cd_length (m : Nat) (N : Int) (s : List UInt8) : (cd m N s).length = m + s.length := by
 induction m generalizing N s with
 | zero => simp [cd]
 | succ m ih => simp only [cd, ih, List.length_cons]; omega
theorem sgn_value (n : Int) (h0 : 0 ≤ n) (h1 : n < 31) : valueOf (sgn n) = n := by
 unfold sgn
 rw [valueOf_sign _ (by omega)]
 omega
theorem areSigns_cons (c : UInt8) (l : List UInt8) : areSigns (c :: l) = (decide (0 ≤ valueOf c) && areSigns l) := rfl
theorem areSigns_append (a b : List UInt8) : areSigns (a ++ b) = (areSigns a && areSigns b) := by unfold areSigns; rw [List.all_append]
theorem cd_signs (m : Nat) (N : Int) (s : List UInt8) (h : areSigns s = true) : areSigns (cd m N s) = true := by
 induction m generalizing N s with
 | zero => exact h
 | succ m ih =>
  refine ih _ _ ?_
  rw [areSigns_cons, h, Bool.and_true]
  have := sgn_value (N % 31) (by omega) (by omega)
  rw [this]
  exact decide_eq_true (by omega)
theorem codeDigs_length (t : Tk) : (codeDigs t).length = 13 := cd_length 13 _ _
theorem codeDigs_signs (t : Tk) : areSigns (codeDigs t) = true := cd_signs _ _ _ rfl
theorem codeOf_length (t : Tk) : (codeOf t).length = 14 := by simp [codeOf, codeDigs_length]
theorem markSign_value (l : List UInt8) : valueOf (markSign l) = markVal l := by
 have h := markVal_lt l
 exact sgn_value (markVal l) h.1 h.2
theorem codeOf_signs (t : Tk) : areSigns (codeOf t) = true := by
 unfold codeOf
 rw [areSigns_append, codeDigs_signs]
 have := markSign_value (codeDigs t)
 have h := markVal_lt (codeDigs t)
 rw [areSigns_cons, this, decide_eq_true h.1]
 rfl
theorem tkBytes_length (t : Tk) : (tkBytes t).length = 8 := rfl

end Go.Proofs.YteojjbhadgkfgaaDoor

/- ref.CodeOf. -/
namespace Go.Proofs.YteojjbhadgkfgaaDoor
set_option linter.unusedSimpArgs false
set_option linter.unusedVariables false
set_option maxRecDepth 100000
open Go Go.RowKit Lb

/-- Block g is a row of bytes that may be written. -/
def BRow (w : World) (g : Nat) (xs : List Int) : Prop :=
 g < w.heap.size ∧ (∀ j (hj : j < xs.length), w.cell? ⟨g, j, none⟩ = some (.int .u8 xs[j])) ∧ (∀ j, j < xs.length → w.frozen? ⟨g, j, none⟩ = false)
theorem BRow.ext {w w' : World} {g : Nat} {xs : List Int} (h : BRow w g xs) (he : Ext w w') : BRow w' g xs :=
 ⟨Nat.lt_of_lt_of_le h.1 he.size, fun j hj => (he.cells g j h.1).trans (h.2.1 j hj), fun j hj => (he.frozs g j h.1).trans (h.2.2 j hj)⟩
theorem BRow.set_ {w : World} {g : Nat} {xs : List Int} (h : BRow w g xs) (i : Nat) (hi : i < xs.length) (x : Int) : BRow (w.setCell ⟨g, i, none⟩ (.int .u8 x)) g (xs.set i x) := by
 refine ⟨by rw [size_set]; exact h.1, fun j hj => ?_, fun j hj => ?_⟩
 ·rw [List.length_set] at hj
  by_cases e : i = j
  ·subst e
   rw [World.cell?_setCell_same _ _ _ (h.2.1 i hi)]
   simp
  ·rw [World.cell?_setCell_other _ _ _ _ (by simp [e]), h.2.1 j hj]
   simp [List.getElem_set, e]
 ·rw [List.length_set] at hj
  simpa [go_sem] using h.2.2 j hj
theorem BRow.drew {w : World} {g : Nat} {xs : List Int} (h : BRow w g xs) : BRow w.drew g xs := h
theorem BRow.conv {w : World} (l : List UInt8) (c : Nat) :
  BRow (w.alloc (.cells (bytesRow (bs l) c) 5 ((bytesRow (bs l) c).size, (bytesRow (bs l) c).size + 1))) w.heap.size (l.map fun c => (c.toNat : Int)) := by
 generalize hX : bytesRow (bs l) c = X
 have hh : (w.alloc (.cells X 5 (X.size, X.size + 1))).heap[w.heap.size]? = some (.cells X 5 (X.size, X.size + 1)) := heap_alloc_new w _
 have hsz : l.length ≤ X.size := by rw [← hX]; simp [bytesRow, bs]
 refine ⟨by simp, fun j hj => ?_, fun j hj => ?_⟩
 ·rw [cell_of_row _ _ j X 5 _ hh]
  rw [List.length_map] at hj
  rw [← hX]
  unfold bytesRow
  rw [Array.getElem?_append_left (by simpa [bs] using hj)]
  simp [bs, hj]
 ·rw [List.length_map] at hj
  unfold World.frozen?
  simp only [hh]
  simp
  omega
theorem tkBytes_bytes {t : Tk} (hs : small t) : byteL (tkBytes t) := by
 unfold small at hs
 intro x hx
 simp only [tkBytes, bytes2, List.flatMap_cons, List.flatMap_nil, List.append_nil, List.cons_append, List.nil_append, List.mem_cons, List.not_mem_nil, or_false] at hx
 omega
theorem nums_back (l : List Int) (h : byteL l) : (l.map fun n => UInt8.ofNat n.toNat).map (fun c => (c.toNat : Int)) = l := by
 induction l with
 | nil => rfl
 | cons b l ih =>
  have hb := h b (by simp)
  rw [List.map_cons, List.map_cons, ih (fun y hy => h y (by simp [hy]))]
  congr 1
  simp
  omega

theorem divs_snoc (r : Int) (l : List Int) (i : Nat) (h : i < l.length) : ∃ r', rest r (l.take i) = r' ∧ rest r (l.take (i + 1)) = (256 * r' + l[i]) % 31 ∧ divs r (l.take (i + 1)) = divs r (l.take i) ++ [(256 * r' + l[i]) / 31] := by
 induction l generalizing r i with
 | nil => simp at h
 | cons b l ih =>
  cases i with
  | zero => exact ⟨r, rfl, rfl, rfl⟩
  | succ i =>
   obtain ⟨r', h1, h2, h3⟩ := ih ((256 * r + b) % 31) i (by simpa using h)
   refine ⟨r', ?_, ?_, ?_⟩
   ·simpa [rest] using h1
   ·simpa [rest] using h2
   ·simpa [divs] using h3
/-- the row in the midst of a division: i bytes are divided -/
def mid (l : List Int) (i : Nat) : List Int := divs 0 (l.take i) ++ l.drop i
theorem mid_length (l : List Int) (i : Nat) (h : i ≤ l.length) : (mid l i).length = l.length := by
 unfold mid
 rw [List.length_append, divs_length, List.length_take, List.length_drop]; omega
theorem mid_get (l : List Int) (i : Nat) (h : i < l.length) : (mid l i)[i]'(by rw [mid_length l i (by omega)]; exact h) = l[i] := by
 have hl : (divs 0 (l.take i)).length = i := by rw [divs_length, List.length_take]; omega
 simp only [mid]
 rw [List.getElem_append_right (by omega)]
 simp [hl]
theorem mid_set (l : List Int) (i : Nat) (h : i < l.length) : (mid l i).set i ((256 * rest 0 (l.take i) + l[i]) / 31) = mid l (i + 1) := by
 obtain ⟨r', h1, h2, h3⟩ := divs_snoc 0 l i h
 have hl : (divs 0 (l.take i)).length = i := by rw [divs_length, List.length_take]; omega
 unfold mid
 rw [h3, h1, List.set_append_right _ _ (by omega), hl, Nat.sub_self, List.drop_eq_getElem_cons h, List.set_cons_zero, List.append_assoc]
 rfl
theorem rest_snocD (l : List Int) (i : Nat) (h : i < l.length) : rest 0 (l.take (i + 1)) = (256 * rest 0 (l.take i) + l[i]) % 31 := by
 obtain ⟨r', h1, h2, h3⟩ := divs_snoc 0 l i h
 rw [h2, h1]
theorem str_cons (c : UInt8) (s : List UInt8) : bs [c] ++ bs s = bs (c :: s) := by
 simp [bs, ByteArray.ext_iff]

set_option maxHeartbeats 4000000 in
theorem ref_CodeOf (t : Tk) (h0 : ckTicket t = 0) (w : World) :
  Calls Tryd.prog 31 #[.agg (tkc t)] w fun e w' => e = .returned (.string (bs (codeOf t))) ∧ Ext w w' := by
 have hs := small_of_ok h0
 have hc := fun w => ref_TicketBytes t w hs
 have hmk := fun s (h : s.length ≤ 20) w => ref_MarkOf s h w
 have hcv := fun (w : World) (s : ByteArray) => run_bytes_of_string (P := Tryd.prog) w 9 98 5 s Tryd.underlying9 Tryd.underlying98 Tryd.underlying5
 have hnb := nums_back _ (tkBytes_bytes hs)
 have hby := tkBytes_bytes hs
 have hlen := tkBytes_length t
 have hD : cd 13 (numFrom 0 (tkBytes t)) [] = codeDigs t := rfl
 rw [strOfNums_bs] at hc
 unfold codeOf
 have hDl := codeDigs_length t
 generalize codeDigs t = D at hD hDl ⊢
 generalize tkBytes t = L0 at hc hnb hby hlen hD
 have hsz := bs_size (L0.map fun n => UInt8.ofNat n.toNat)
 rw [List.length_map, hlen] at hsz
 obtain ⟨a, b, c, d, e, f⟩ := t
 simp only [tkc] at hc ⊢
 have HC := Lib.hid hc
 have HMK := Lib.hid hmk
 have HNB := Lib.hid hnb
 have HBY := Lib.hid hby
 have HD := Lib.hid hD
 have HDl := Lib.hid hDl
 have HLN := Lib.hid hlen
 clear hc hmk hnb hby hD hDl hlen hs h0
 go_enter Tryd.func31, Tryd.ntmps31
 go_wp2_with fail
 refine (HC.out _).mono ?_
 rintro e w1 ⟨rfl, h1⟩
 have H1 := Lib.hid h1
 clear h1
 go_wp2_with fail
 go_loopg [4, 5, 6, 7, 8] 13 (fun gg s4 s5 _ _ _ wr => ∃ (k : Nat) (l : List UInt8) (xs : List Int), k ≤ 13 ∧ 13 - k ≤ gg ∧ s4 = .string (bs l) ∧ s5 = .int .i64 k ∧ Aside (xs.length = 8 ∧ byteL xs ∧ l.length = k ∧ cd (13 - k) (numFrom 0 xs) l = D) ∧ Aside (Ext w wr ∧ BRow wr w1.heap.size xs))
 case atStart =>
  refine ⟨0, [], L0, by omega, by omega, rfl, rfl, ⟨HLN.out, HBY.out, rfl, HD.out⟩, by exact extA, ?_⟩
  have := BRow.conv (w := w1) (L0.map fun n => UInt8.ofNat n.toNat) (grownCap w1 8 0 5)
  rw [HNB.out] at this
  exact this.drew
 case round =>
  obtain ⟨k, l, xs, hk, hg, rfl, rfl, HX, HW⟩ := hrel
  obtain ⟨hx8, hxb, hlk, hxd⟩ := HX.out
  have hlk := Lib.hid hlk
  obtain ⟨hE, hR⟩ := HW.out
  by_cases hlt : k < 13
  ·have hlt' : (k : Int) < 13 := by omega
   have HX8 := Lib.hid hx8
   have HXB := Lib.hid hxb
   have HXD := Lib.hid hxd
   have HR := Lib.hid hR
   have HE := Lib.hid hE
   clear hx8 hxb hxd hR hE HX HW
   go_wp2_with fail
   obtain ⟨wo, hwo⟩ : ∃ wo : World, wo = wr := ⟨_, rfl⟩
   go_loopg [6, 7, 8] 8 (fun gg s6 s7 _ w2 => ∃ (i : Nat), i ≤ 8 ∧ 8 - i ≤ gg ∧ s6 = .int .i64 (rest 0 (xs.take i)) ∧ s7 = .int .i64 i ∧ Aside (Ext w w2 ∧ BRow w2 w1.heap.size (mid xs i)))
   case atStart => exact ⟨0, by omega, by omega, rfl, rfl, HE.out, by simpa [mid, divs] using HR.out⟩
   case round =>
    obtain ⟨i, hi, hgi, rfl, rfl, HW⟩ := hrel
    by_cases hi8 : i < 8
    ·have hi8' : (i : Int) < 8 := by omega
     obtain ⟨hE2, hR2⟩ := HW.out
     have hix : i < xs.length := by rw [HX8.out]; exact hi8
     have hl := mid_length xs i (by omega)
     have hcell := hR2.2.1 i (by omega)
     have hfz := hR2.2.2 i (by omega)
     rw [mid_get xs i hix] at hcell
     have hset := hR2.set_ i (by omega) ((256 * rest 0 (xs.take i) + xs[i]) / 31)
     rw [mid_set xs i hix] at hset
     have hrs := rest_snocD xs i hix
     have hb := HXB.out xs[i] (List.getElem_mem hix)
     have hr := rest_lt 0 (xs.take i) (by omega) (by omega)
     have hgs := hR2.1
     generalize xs[i] = x at hcell hset hrs hb
     generalize rest 0 (xs.take i) = r at hset hrs hr ⊢
     have HSET := Lib.hid hset
     have HRS := Lib.hid hrs
     have HE2 := Lib.hid hE2
     clear hset hrs hE2 hR2 HW hl hix hwo
     go_wp2_with fail
     go_roundg (8 - (i + 1))
     case measure => omega
     case rel =>
      refine ⟨i + 1, by omega, by omega, by rw [HRS.out], by go_num, ?_, HSET.out⟩
      exact HE2.out.setCell (by simp; exact Nat.le_trans (by simp) H1.out.size) _
    ·have hi8' : ¬ (i : Int) < 8 := by omega
     have hie : i = xs.length := by rw [HX8.out]; omega
     obtain ⟨hE2, hR2⟩ := HW.out
     have hnd := num_divs xs
     have hrl := rest_lt 0 xs (by omega) (by omega)
     have hdb := divs_bytes 0 xs (by omega) (by omega) HXB.out
     have hdl : (divs 0 xs).length = 8 := by rw [divs_length]; exact HX8.out
     rw [hie] at hR2 ⊢
     rw [List.take_length]
     simp only [mid, List.take_length, List.drop_length, List.append_nil] at hR2
     obtain ⟨m, hm⟩ := Int.eq_ofNat_of_zero_le hrl.1
     have hm31 : m < 31 := by omega
     have hm31' : (m : Int) < 31 := by omega
     have hsl := sign_slice' m hm31
     have hcd : cd (13 - (k + 1)) (numFrom 0 (divs 0 xs)) (signs.getD m 0 :: l) = D := by
      rw [← HXD.out, show 13 - k = 13 - (k + 1) + 1 from by omega, cd, hnd.1, ← hnd.2, hm]
      rfl
     rw [hm]
     have hs1 := bs_size [signs.getD m 0]
     have hs2 := bs_size l
     have hl13 : l.length ≤ 13 := by have := hlk.out; omega
     rw [List.length_singleton] at hs1
     generalize signs.getD m 0 = c at hsl hcd hs1
     have HCD := Lib.hid hcd
     have HDB := Lib.hid hdb
     have HDL := Lib.hid hdl
     have HE2 := Lib.hid hE2
     have HR2 := Lib.hid hR2
     clear hcd hdb hdl hE2 hR2 hnd hrl hm HW hwo
     have hx8 := HX8.out
     rw [hx8]
     clear hie hx8
     go_wp2_with fail
     go_roundg (13 - (k + 1))
     case measure => omega
     case rel =>
      exact ⟨k + 1, c :: l, divs 0 xs, by omega, by omega, by rw [str_cons], by go_num, ⟨HDL.out, HDB.out, by rw [List.length_cons, hlk.out], HCD.out⟩, HE2.out, HR2.out⟩
  ·have hge : ¬ (k : Int) < 13 := by omega
   have hk13 : k = 13 := by omega
   rw [hk13] at hxd
   have hxd : l = D := hxd
   rw [hxd]
   have HE := Lib.hid hE
   have hsz2 := HE.out.size
   have hmk := fun w => HMK.out D (by have := HDl.out; omega) w
   have hs1 := bs_size [markSign D]
   have hs2 := bs_size D
   have hD13 : D.length ≤ 13 := by have := HDl.out; omega
   rw [List.length_singleton] at hs1
   generalize hMM : markSign D = mk at hs1 hmk
   have HMM := Lib.hid hMM
   have HMK := Lib.hid hmk
   clear hxd hxb hx8 hE hR HX HW hk13 hmk hMM hlk
   go_wp2_with fail
   refine (HMK.out _).mono ?_
   rintro e w3 ⟨rfl, rfl⟩
   go_wp2_with fail
   go_ret
   refine ⟨ret_string ?_, HE.out⟩
   rw [HMM.out]
   simp [bs, ByteArray.ext_iff]
end Go.Proofs.YteojjbhadgkfgaaDoor

/- code.Text. -/
namespace Go.Proofs.YteojjbhadgkfgaaDoor
set_option linter.unusedSimpArgs false
set_option linter.unusedVariables false
set_option maxRecDepth 100000
open Go Go.RowKit Lb

theorem numFrom_take (a : Int) (l : List Int) (i : Nat) (h : i < l.length) : numFrom a (l.take (i + 1)) = 256 * numFrom a (l.take i) + l[i] := by
 rw [List.take_succ_eq_append_getElem h, numFrom_append]
 rfl

theorem shl_or {N x : Int} (h0 : 0 ≤ N) (h1 : N < 72057594037927936) (h2 : 0 ≤ x) (h3 : x < 256) : bits .or .u64 (IntKind.u64.wrap (N * 256)) x = 256 * N + x := by
 rw [IntKind.wrap_u64, u64_or _ _ (by omega) (by omega) (by omega) (by omega)]
 rw [show N * 256 % 18446744073709551616 = N * 256 from by omega]
 obtain ⟨n, rfl⟩ := Int.eq_ofNat_of_zero_le h0
 obtain ⟨y, rfl⟩ := Int.eq_ofNat_of_zero_le h2
 have := Nat.shiftLeft_add_eq_or_of_lt (i := 8) (b := y) (by omega) n
 rw [Nat.shiftLeft_eq] at this
 have h : ((n : Int) * 256).toNat = n * 2 ^ 8 := by omega
 rw [h, Int.toNat_natCast, ← this]
 omega
theorem BRow.of_row {w : World} {g : Nat} {xs : List Int} (h : Row w g (xs.map (Value.int .u8)).toArray) : BRow w g xs :=
 ⟨h.1, fun j hj => by rw [h.2.1 j]; simp [hj], fun j _ => h.2.2 j⟩
theorem BRow.conv_run {w : World} {g n c : Nat} {xs : List Int} (h : BRow w g xs) (hn : xs.length = n) :
  (convert 98 9 (.slice (some ⟨g, 0, none⟩) n c)).run Tryd.prog w = .ok (.string (strOfNums xs)) w :=
 run_convert_bytes_arg w 98 5 Tryd.underlying98 Tryd.underlying5 g 0 n c xs hn (fun i hi => by
  rw [Nat.zero_add, h.2.1 i (by omega)]
  simp [List.getD, show i < xs.length by omega]) 9 Tryd.underlying9
theorem strOfNums_back (l : List UInt8) : strOfNums (l.map fun c => (c.toNat : Int)) = bs l := by
 rw [strOfNums_bs, List.map_map]
 congr 1
 have : ((fun n : Int => UInt8.ofNat n.toNat) ∘ fun c : UInt8 => (c.toNat : Int)) = id := by
  funext c
  simp
 rw [this, List.map_id]
theorem num8_lt (l : List Int) (h : byteL l) (k : Nat) (hk : k < 8) : 0 ≤ numFrom 0 (l.take k) ∧ numFrom 0 (l.take k) < 72057594037927936 := by
 have h1 := numFrom_bound 0 (l.take k) (by omega) (fun x hx => h x (List.mem_of_mem_take hx))
 refine ⟨h1.1, Int.lt_of_lt_of_le h1.2 ?_⟩
 rw [show (0 + 1 : Int) = 1 from rfl, Int.one_mul]
 have h2 : 256 ^ (l.take k).length ≤ 256 ^ 7 := Nat.pow_le_pow_right (by omega) (by rw [List.length_take]; omega)
 have h3 : (((256 ^ (l.take k).length : Nat)) : Int) ≤ ((256 ^ 7 : Nat) : Int) := by exact Int.ofNat_le.2 h2
 rw [Int.natCast_pow] at h3
 exact h3

theorem sign_get' (m : Nat) (h : m < 31) (h' : m < (ByteArray.mk #[48, 49, 50, 51, 52, 53, 54, 55, 56, 57, 65, 66, 67, 68, 69, 70, 71, 72, 74, 75, 76, 77, 78, 80, 81, 82, 83, 84, 85, 86, 87]).size) :
  (ByteArray.mk #[48, 49, 50, 51, 52, 53, 54, 55, 56, 57, 65, 66, 67, 68, 69, 70, 71, 72, 74, 75, 76, 77, 78, 80, 81, 82, 83, 84, 85, 86, 87])[m] = signs.getD m 0 := sign_get m h
theorem u64_quo {N : Int} (h0 : 0 ≤ N) (h1 : N < 18446744073709551616) : IntKind.u64.wrap (N.tdiv 31) = N / 31 := by
 rw [IntKind.wrap_u64, Int.tdiv_eq_ediv_of_nonneg h0]
 omega
theorem num8_full (l : List Int) (h : byteL l) (hl : l.length = 8) : numFrom 0 l < 18446744073709551616 := by
 have h1 := (numFrom_bound 0 l (by omega) h).2
 rw [hl] at h1
 exact h1

set_option maxHeartbeats 4000000 in
theorem code_Text (t : Tk) (h0 : ckTicket t = 0) (w : World) :
  Calls Tryd.prog 48 #[.agg (tkc t)] w fun e w' => e = .returned (.string (bs (codeOf t))) ∧ Ext w w' := by
 have hs := small_of_ok h0
 have hc := fun w => ticket_Bytes t w hs
 have hmk := fun s (h : s.length ≤ 20) ha w => code_mark s h ha w
 have hby := tkBytes_bytes hs
 have hlen := tkBytes_length t
 have hD : cd 13 (numFrom 0 (tkBytes t)) [] = codeDigs t := rfl
 have hDl := codeDigs_length t
 have hDs := codeDigs_signs t
 unfold codeOf
 generalize codeDigs t = D at hD hDl hDs ⊢
 generalize tkBytes t = L0 at hc hby hlen hD
 obtain ⟨a, b, c, d, e, f⟩ := t
 simp only [tkc] at hc ⊢
 have HC := Lib.hid hc
 have HMK := Lib.hid hmk
 have HBY := Lib.hid hby
 have HD := Lib.hid hD
 have HDl := Lib.hid hDl
 have HDs := Lib.hid hDs
 have HLN := Lib.hid hlen
 clear hc hmk hby hD hDl hDs hlen hs h0
 go_enter Tryd.func48, Tryd.ntmps48
 go_wp2_with fail
 refine (HC.out _).mono ?_
 rintro e w1 ⟨v, rfl, h1, h2⟩
 obtain ⟨g, cap, hv, hg, hgs⟩ := h2.form (by omega)
 subst hv
 have hcell : ∀ i (hi : i < L0.length), w1.cell? ⟨g, i, none⟩ = some (.int .u8 L0[i]) := by
  intro i hi
  have hln := HLN.out
  rw [h2.cellAt i (by omega)]
  simp [hi]
 have HCE := Lib.hid hcell
 have H1 := Lib.hid h1
 clear h1 h2 hcell
 go_wp2_with fail
 go_loopg [3, 5, 12] 8 (fun gg s3 _ s12 wr => wr = w1 ∧ ∃ (k : Nat) (N : Int), k ≤ 8 ∧ 8 - k ≤ gg ∧ s3 = .int .u64 N ∧ s12 = .int .i64 k ∧ Aside (N = numFrom 0 (L0.take k)))
 case atStart => exact ⟨rfl, 0, 0, by omega, by omega, rfl, rfl, rfl⟩
 case round =>
  obtain ⟨rfl, k, N, hk, hgk, rfl, rfl, HN⟩ := hrel
  by_cases hlt : k < 8
  ·have hlt' : (k : Int) < 8 := by omega
   have hkl : k < L0.length := by rw [HLN.out]; exact hlt
   have hc1 := HCE.out k hkl
   have hxb := HBY.out L0[k] (List.getElem_mem hkl)
   have hnt := numFrom_take 0 L0 k hkl
   have hnb := num8_lt L0 HBY.out k hlt
   rw [← HN.out] at hnt hnb
   generalize L0[k] = x at hc1 hxb hnt
   have HV := Lib.hid ((shl_or hnb.1 hnb.2 hxb.1 hxb.2).trans hnt.symm)
   clear hkl hnt hnb HN
   go_wp2_with fail
   go_roundg (8 - (k + 1))
   case measure => omega
   case rel => exact ⟨rfl, k + 1, _, by omega, by omega, by rw [HV.out], by go_num, rfl⟩
  ·have hge : ¬ (k : Int) < 8 := by omega
   have hke : k = L0.length := by rw [HLN.out]; omega
   have hN := HN.out
   rw [hke, List.take_length] at hN
   have hN0 := (numFrom_bound 0 L0 (by omega) HBY.out).1
   rw [← hN] at hN0
   have HN64 := Lib.hid (num8_full L0 HBY.out HLN.out)
   rw [← hN] at HN64
   have hD2 := HD.out
   rw [← hN] at hD2
   have HD2 := Lib.hid hD2
   clear hke hN hD2 HN HD
   go_wp2_with fail
   have HD1 : Hid (areSigns D = true ∧ D.length = 13) := ⟨HDs.out, HDl.out⟩
   clear HDs HDl HCE HBY
   obtain ⟨wa, rfl⟩ : ∃ wa : World, wa = wr := ⟨_, rfl⟩
   go_loopg [3, 7, 22] 13 (fun gg s3 _ s22 w2 => ∃ (k : Nat) (N : Int) (l : List UInt8) (ys : List Int), k ≤ 13 ∧ 13 - k ≤ gg ∧ s3 = .int .u64 N ∧ s22 = .int .i64 k ∧ 0 ≤ N ∧ Aside (N < 18446744073709551616 ∧ l.length = k ∧ cd (13 - k) N l = D) ∧ Aside (ys.length = 13 ∧ ys.drop (13 - k) = l.map fun c => (c.toNat : Int)) ∧ Aside (Ext w w2 ∧ BRow w2 wa.heap.size ys))
   case atStart =>
    refine ⟨0, N, [], List.replicate 13 0, by omega, by omega, rfl, rfl, hN0, ⟨HN64.out, rfl, HD2.out⟩, ⟨by simp, by simp⟩, by exact extA, BRow.of_row (Row.newAt rfl)⟩
   case round =>
    clear hN0 HD2
    obtain ⟨k, N, l, ys, hk, hgk, rfl, rfl, hN0, HL, HY, HW⟩ := hrel
    by_cases hlt : k < 13
    ·obtain ⟨hN64, hlk, hcd⟩ := HL.out
     obtain ⟨hyl, hyd⟩ := HY.out
     obtain ⟨hE, hR⟩ := HW.out
     have hlt' : (k : Int) < 13 := by omega
     obtain ⟨m, hm⟩ := Int.eq_ofNat_of_zero_le (show 0 ≤ N % 31 by omega)
     have hm31 : m < 31 := by omega
     have hm31' : (m : Int) < 31 := by omega
     have hcd2 : cd (13 - (k + 1)) (N / 31) (signs.getD m 0 :: l) = D := by
      rw [← hcd, show 13 - k = 13 - (k + 1) + 1 from by omega, cd, hm]
      rfl
     obtain ⟨j, hj⟩ : ∃ j, k + j = 12 := ⟨12 - k, by omega⟩
     have hji : (12 : Int) - k = (j : Int) := by omega
     have hset := hR.set_ j (by omega) ((signs.getD m 0).toNat : Int)
     have hjc := hR.2.1 j (by omega)
     have hjf := hR.2.2 j (by omega)
     have hyd2 : (ys.set j ((signs.getD m 0).toNat : Int)).drop (13 - (k + 1)) = (signs.getD m 0 :: l).map fun c => (c.toNat : Int) := by
      rw [show 13 - (k + 1) = j by omega, List.drop_eq_getElem_cons (by rw [List.length_set]; omega), List.getElem_set_self, List.drop_set, if_pos (by omega), show j + 1 = 13 - k by omega, hyd]
      rfl
     have hsg := sign_get' m hm31
     generalize ys[j] = yj at hjc
     generalize signs.getD m 0 = ch at hset hcd2 hyd2 hsg
     have hN2 : 0 ≤ N / 31 := by omega
     have HQ := Lib.hid (u64_quo hN0 hN64)
     have HN2 := Lib.hid (show N / 31 < 18446744073709551616 by omega)
     have HSET := Lib.hid hset
     have HCD := Lib.hid hcd2
     have HYD := Lib.hid hyd2
     have HLK := Lib.hid hlk
     have HYL := Lib.hid hyl
     have HE := Lib.hid hE
     have hj13 : (j : Int) < 13 := by omega
     have HJ := Lib.hid hj
     clear hset hcd2 hyd2 hlk hyl hcd hyd hE hR HL HY HW hj hN64
     go_wp2_with fail
     go_roundg (13 - (k + 1))
     case measure => omega
     case rel =>
      refine ⟨k + 1, N / 31, ch :: l, ys.set j (ch.toNat : Int), by omega, by omega, by rw [HQ.out], by go_num, hN2, ⟨HN2.out, by rw [List.length_cons, HLK.out], HCD.out⟩, ⟨by rw [List.length_set, HYL.out], HYD.out⟩, ?_, HSET.out⟩
      exact HE.out.setCell (by simp; exact Nat.le_trans (by simp) H1.out.size) _
    ·have hge : ¬ (k : Int) < 13 := by omega
     have hk13 : k = 13 := by omega
     obtain ⟨hN64, hlk, hcd⟩ := HL.out
     obtain ⟨hyl, hyd⟩ := HY.out
     obtain ⟨hE, hR⟩ := HW.out
     rw [hk13] at hcd hyd
     have hcd : l = D := hcd
     have hyd : ys = l.map fun c => (c.toNat : Int) := hyd
     rw [hyd, hcd] at hR
     have hrun := fun c => hR.conv_run (n := 13) (c := c) (by rw [List.length_map]; exact HD1.out.2)
     rw [strOfNums_back] at hrun
     have hmk := fun w => HMK.out D (by have := HD1.out.2; omega) HD1.out.1 w
     have hs1 := bs_size [markSign D]
     have hs2 := bs_size D
     have hD13 : D.length ≤ 13 := by have := HD1.out.2; omega
     rw [List.length_singleton] at hs1
     generalize hMM : markSign D = mk at hs1 hmk
     have HMM := Lib.hid hMM
     have HMK := Lib.hid hmk
     have HE := Lib.hid hE
     clear hyd hcd hlk hyl hE HL HY HW hk13 hmk hMM hR HD1 hN64
     go_wp2_with fail
     refine (HMK.out _).mono ?_
     rintro e w3 ⟨rfl, h3⟩
     have H3 := Lib.hid h3
     clear h3
     go_wp2_with fail
     go_ret
     refine ⟨ret_string ?_, HE.out.trans H3.out⟩
     rw [HMM.out]
     simp [bs, ByteArray.ext_iff]
end Go.Proofs.YteojjbhadgkfgaaDoor
