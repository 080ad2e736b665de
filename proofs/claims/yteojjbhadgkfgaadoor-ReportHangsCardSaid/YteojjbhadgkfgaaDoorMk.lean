/- Mk: parts of the proofs, laid together. -/
import Derived.Deep.RegionHeld3
import Derived.Shelf.Slices.SearchI
import Derived.Shelf.Slices.Empties
import Derived.Shelf.Spec.SlicesInsert
import Derived.Shelf.Spec.SlicesInsertGrow
import Derived.Test.YteojjbhadgkfgaaDoorMa
/- Lists of denied tickets: the plain side: what is wrong with one, what comes of one more id, which one is newer; laws of these. -/
namespace Lb

def ckIds : Option Int → List Int → Int
 | _, [] => 0
 | prev, x :: l => if within x 1 9999 = false then 3 else if noRise prev x = true then 4 else ckIds (some x) l
theorem ckIds_cons (prev : Option Int) (x : Int) (l : List Int) : ckIds prev (x :: l) = if within x 1 9999 = false then 3 else if noRise prev x = true then 4 else ckIds (some x) l := rfl
def prevAt (l : List Int) (k : Nat) : Option Int := if k = 0 then none else l[k - 1]?
theorem prevAt_succ (l : List Int) (k : Nat) (h : k < l.length) : prevAt l (k + 1) = some l[k] := by simp [prevAt, h]
def ckDn (d : Dn) : Int :=
 if within d.version 0 999 = false then 3 else if 12 < d.ids.length then 2 else if ckIds none d.ids ≠ 0 then ckIds none d.ids else if d.version < d.ids.length then 4 else 0
end Lb

/- denied.Check and the references' CheckDenied. -/
namespace Go.Proofs.YteojjbhadgkfgaaDoor
set_option linter.unusedSimpArgs false
set_option linter.unusedVariables false
set_option maxRecDepth 100000
open Go Go.RowKit Lb

theorem denied_within (n a b : Int) (w : World) :
  Calls Tryd.prog 79 #[.int .i64 n, .int .i64 a, .int .i64 b] w fun e w' => e = .returned (.bool (within n a b)) ∧ w = w' := by
 go_enter Tryd.func79, Tryd.ntmps79
 go_wp2
 all_goals
  go_ret
  exact ⟨ret_bool (by simp [within, *] <;> omega), rfl⟩

theorem RdL.int_at {w : World} {v : Value} {l : List Int} (h : RdL 1 inc w v l) {A : Option Addr} {n c : Nat} (hv : v = .slice A n c) {j : Nat} (hj : j < l.length) : ∃ b o, A = some ⟨b, o, none⟩ ∧ b < w.heap.size ∧ w.cell? ⟨b, o + j, none⟩ = some (.int .i64 l[j]) := by
 subst hv
 obtain ⟨b, o, c', hv, hb, hc⟩ := h.at_ hj
 injection hv with hA
 have := hc 0 (.int .i64 l[j]) (by simp [inc])
 rw [Nat.mul_one, Nat.add_zero] at this
 exact ⟨b, o, hA, hb, this⟩

set_option maxHeartbeats 4000000 in
theorem denied_Check (d : Dn) (s : Value) (w : World) (hr : RdL 1 inc w s d.ids) :
  Calls Tryd.prog 51 #[.agg #[.int .i64 d.version, s]] w fun e w' => e = .returned (.int .i64 (ckDn d)) ∧ Ext w w' := by
 obtain ⟨ver, l⟩ := d
 simp only at hr ⊢
 obtain ⟨A, c, rfl, hmc, hmm⟩ := hr.form
 have hm : l.length ≤ 9223372036854775807 := by unfold maxLen at hmm; omega
 unfold ckDn
 simp only
 have HRd := Lib.hid hr
 have hW1 := fun w => denied_within ver 0 999 w
 clear hr hmm hmc
 cases hv : within ver 0 999 with
 | false =>
  rw [hv] at hW1
  have HW := Lib.hid hW1
  clear hW1 HRd hv
  go_enter Tryd.func51, Tryd.ntmps51
  go_wp2_with (go_at_call 79; refine (HW.out _).mono ?_; rintro e w' ⟨rfl, rfl⟩)
  go_ret
  refine ⟨ret_int (by simp), ?_⟩
  exact extA
 | true =>
  rw [hv] at hW1
  have HW := Lib.hid hW1
  clear hW1 hv
  by_cases h12 : 12 < l.length
  ·have h12' : (12 : Int) < (l.length : Int) := by omega
   rw [if_neg (by simp), if_pos h12]
   clear HRd h12
   go_enter Tryd.func51, Tryd.ntmps51
   go_wp2_with (go_at_call 79; refine (HW.out _).mono ?_; rintro e w' ⟨rfl, rfl⟩)
   go_ret
   refine ⟨ret_int (by simp), ?_⟩
   exact extA
  ·have h12' : ¬ (12 : Int) < (l.length : Int) := by omega
   rw [if_neg (by simp), if_neg h12]
   generalize hR : ckIds none l = r
   have HR := Lib.hid hR
   generalize hS : (if r ≠ 0 then r else if ver < l.length then (4 : Int) else 0) = res
   have HS := Lib.hid hS
   clear hS
   have HV := Lib.hid h12
   clear hR h12
   go_enter Tryd.func51, Tryd.ntmps51
   go_wp2_with (go_at_call 79; refine (HW.out _).mono ?_; rintro e w' ⟨rfl, rfl⟩)
   go_loopg [2, 3, 4, 18] l.length (fun gg _ _ _ s18 wr => ∃ k : Nat, k ≤ l.length ∧ l.length - k ≤ gg ∧ s18 = .int .i64 k ∧ Aside (Ext w wr ∧ Row wr w.heap.size #[.int .i64 ver, .slice A l.length c]) ∧ Aside (ckIds (prevAt l k) (l.drop k) = r))
   case atStart => exact ⟨0, by omega, by omega, rfl, ⟨(Ext.refl _).alloc _, Row.new⟩, HR.out⟩
   case round =>
    obtain ⟨k, hk, hg, rfl, HE, HA⟩ := hrel
    by_cases hlt : k < l.length
    ·have hlt' : (k : Int) < (l.length : Int) := by omega
     obtain ⟨b, o, rfl, hb, hcell⟩ := (HRd.out.ext HE.out.1).int_at rfl hlt
     have hprev : 0 < k → wr.cell? ⟨b, o + (k - 1), none⟩ = some (.int .i64 (l[k - 1]!)) := by
      intro h0
      obtain ⟨b', o', hA, _, hc'⟩ := (HRd.out.ext HE.out.1).int_at rfl (show k - 1 < l.length by omega)
      injection hA with hA
      injection hA with h1 h2
      subst h1 h2
      rw [hc', getElem!_pos l (k - 1) (by omega)]
     have hA := HA.out
     rw [List.drop_eq_getElem_cons hlt, ckIds_cons] at hA
     have hp : prevAt l k = if k = 0 then none else some l[k - 1]! := by
      unfold prevAt
      split
      ·rfl
      ·rw [getElem!_pos l (k - 1) (by omega), List.getElem?_eq_getElem]
     have hn := prevAt_succ l k hlt
     rw [← hn] at hA
     have hW2 := fun w => denied_within l[k] 1 9999 w
     generalize l[k] = x at *
     generalize l[k - 1]! = y at *
     obtain ⟨HE1, HRow⟩ := HE
     have hq := HRow.2.1
     have hfz := HRow.2.2
     have hlt2 := HRow.1
     have HE2 := Lib.hid HE1
     have HR2 := Lib.hid HRow
     clear HE1 HRow HA hn
     cases hwx : within x 1 9999 with
     | false =>
      rw [hwx] at hW2
      rw [if_pos hwx] at hA
      have HW2 := Lib.hid hW2
      have hres := HS.out
      rw [← hA, if_pos (by decide)] at hres
      have HA2 := Lib.hid hres
      clear hW2 hA hwx hp hprev hres
      go_wp2_with (go_at_call 79; refine (HW2.out _).mono ?_; rintro e w' ⟨rfl, rfl⟩)
      go_ret
      exact ⟨ret_int HA2.out, HE2.out⟩
     | true =>
      rw [hwx] at hW2
      rw [if_neg (by rw [hwx]; decide), hp] at hA
      have HW2 := Lib.hid hW2
      clear hW2 hwx hp
      by_cases hk0 : k = 0
      ·subst hk0
       rw [if_pos rfl] at hA
       simp only [noRise, Bool.false_eq_true, if_false] at hA
       have HA2 := Lib.hid hA
       rw [Nat.add_zero] at hcell
       clear hA hprev
       go_wp2_with (go_at_call 79; refine (HW2.out _).mono ?_; rintro e w' ⟨rfl, rfl⟩)
       go_roundg (l.length - (0 + 1))
       case measure => omega
       case rel => exact ⟨0 + 1, by omega, by omega, by go_num, ⟨HE2.out, HR2.out⟩, HA2.out⟩
      ·have hkp : (0 : Int) < (k : Int) := by omega
       have hw1 : IntKind.i64.wrap ((k : Int) - 1) = ((k - 1 : Nat) : Int) := by
        rw [IntWalk.i64_in _ (by omega)]; omega
       have hk1 : ((k - 1 : Nat) : Int) < (l.length : Int) := by omega
       have hk2 : k - 1 < l.length := by omega
       have hcp := hprev (by omega)
       rw [if_neg hk0] at hA
       simp only [noRise] at hA
       clear hprev
       by_cases hy : x ≤ y
       ·replace hA : (4 : Int) = r := by simpa [hy] using hA
        have hres := HS.out
        rw [← hA, if_pos (by decide)] at hres
        have HA2 := Lib.hid hres
        clear hA hres
        go_wp2_with (go_at_call 79; refine (HW2.out _).mono ?_; rintro e w' ⟨rfl, rfl⟩)
        go_ret
        exact ⟨ret_int HA2.out, HE2.out⟩
       ·replace hA : ckIds (prevAt l (k + 1)) (l.drop (k + 1)) = r := by simpa [hy] using hA
        have HA2 := Lib.hid hA
        clear hA
        go_wp2_with (go_at_call 79; refine (HW2.out _).mono ?_; rintro e w' ⟨rfl, rfl⟩)
        go_roundg (l.length - (k + 1))
        case measure => omega
        case rel => exact ⟨k + 1, by omega, by omega, by go_num, ⟨HE2.out, HR2.out⟩, HA2.out⟩
    ·have hkl : k = l.length := by omega
     have hge : ¬ (k : Int) < (l.length : Int) := by omega
     have hA := HA.out
     subst hkl
     rw [List.drop_length] at hA
     simp only [ckIds] at hA
     obtain ⟨HE1, HRow⟩ := HE
     have hq := HRow.2.1
     have hfz := HRow.2.2
     have hlt2 := HRow.1
     have HE2 := Lib.hid HE1
     have HR2 := Lib.hid HRow
     have hres := HS.out
     rw [← hA, if_neg (by decide)] at hres
     clear HE1 HRow HA hA HS
     by_cases hvl : ver < l.length
     ·rw [if_pos hvl] at hres
      have HA2 := Lib.hid hres
      clear hres
      go_wp2_with fail
      go_ret
      exact ⟨ret_int HA2.out, HE2.out⟩
     ·rw [if_neg hvl] at hres
      have HA2 := Lib.hid hres
      clear hres
      go_wp2_with fail
      go_ret
      exact ⟨ret_int HA2.out, HE2.out⟩
end Go.Proofs.YteojjbhadgkfgaaDoor

/- denied.Own, HasInt, SameInts, SameDenied, NewerOf. -/
namespace Go.Proofs.YteojjbhadgkfgaaDoor
set_option linter.unusedSimpArgs false
set_option linter.unusedVariables false
set_option maxRecDepth 100000
open Go Go.RowKit Lb

end Go.Proofs.YteojjbhadgkfgaaDoor

/- slices.BinarySearch and slices.Insert over int, laid from the shelf in plain words. -/
namespace Go.Proofs.YteojjbhadgkfgaaDoor
set_option linter.unusedSimpArgs false
set_option linter.unusedVariables false
set_option maxRecDepth 100000
open Go Go.RowKit Go.Shelf Lb

end Go.Proofs.YteojjbhadgkfgaaDoor

/- denied: an id comes to a keeper's own list. -/
namespace Go.Proofs.YteojjbhadgkfgaaDoor
set_option linter.unusedSimpArgs false
set_option linter.unusedVariables false
set_option maxRecDepth 100000
open Go Go.RowKit Lb

end Go.Proofs.YteojjbhadgkfgaaDoor

/- denied.Raw and Add. -/
namespace Go.Proofs.YteojjbhadgkfgaaDoor
set_option linter.unusedSimpArgs false
set_option linter.unusedVariables false
set_option maxRecDepth 100000
open Go Go.RowKit Lb

end Go.Proofs.YteojjbhadgkfgaaDoor

/- denied.Pick, two, Newer, Has. -/
namespace Go.Proofs.YteojjbhadgkfgaaDoor
set_option linter.unusedSimpArgs false
set_option linter.unusedVariables false
set_option maxRecDepth 100000
open Go Go.RowKit Lb

end Go.Proofs.YteojjbhadgkfgaaDoor
