/- Mab: parts of the proofs, laid together. -/
import Derived.Lib.ItoaNum
import Derived.Lib.ItoaMem
import Derived.Shelf.Strconv.Itoa4
import Derived.Shelf.Strconv.Itoa3
import Derived.Lib.AppendIntMem
import Derived.Test.YteojjbhadgkfgaaDoorRows
import Derived.Test.YteojjbhadgkfgaaDoorMc
import Derived.Test.YteojjbhadgkfgaaDoorMd
import Derived.Test.YteojjbhadgkfgaaDoorMg
import Derived.Test.YteojjbhadgkfgaaDoorMaa
import Derived.Test.YteojjbhadgkfgaaDoorMs
import Derived.Test.YteojjbhadgkfgaaDoorMa
import Derived.Test.YteojjbhadgkfgaaDoorMr
import Derived.Test.YteojjbhadgkfgaaDoorMb
import Derived.Test.YteojjbhadgkfgaaDoorMw
/- The law AuditMore. -/
namespace Go.Proofs.YteojjbhadgkfgaaDoor
set_option linter.unusedSimpArgs false
set_option linter.unusedVariables false
set_option maxRecDepth 100000
open Go Go.RowKit Lb

theorem gate_in {p : Tp} (h : ckTap p = 0) : 0 ≤ p.gate ∧ p.gate < 3 := by
 unfold ckTap at h
 cases hh : within p.gate 0 2 with
 | true => simp [within] at hh; omega
 | false => simp [hh] at h

end Go.Proofs.YteojjbhadgkfgaaDoor

/- Sums over gates, tickets, times: the plain side. -/
namespace Go.Proofs.YteojjbhadgkfgaaDoor
set_option linter.unusedSimpArgs false
set_option linter.unusedVariables false
set_option maxRecDepth 100000
open Go Go.RowKit Lb

end Go.Proofs.YteojjbhadgkfgaaDoor

/- Reports: the plain side: a line of a ticket, the text of a station. -/
namespace Go.Proofs.YteojjbhadgkfgaaDoor
open Lb
set_option linter.unusedVariables false
set_option maxRecDepth 100000
set_option linter.unusedSimpArgs false

/-- the digits of a number that is not less than none -/
def decI (n : Int) : List UInt8 := Lib.decDigits n.toNat
theorem decI_nat (n : Nat) : decI (n : Int) = Lib.decDigits n := by simp [decI]
theorem dec_small {n : Nat} (h : n < 10) : Lib.decDigits n = [UInt8.ofNat (48 + n)] := by rw [Lib.decDigits, dif_pos h]
theorem dec_big {n : Nat} (h : ¬ n < 10) : Lib.decDigits n = Lib.decDigits (n / 10) ++ [UInt8.ofNat (48 + n % 10)] := by rw [Lib.decDigits, dif_neg h]
/-- what stands behind a line's head for a tap -/
def tapR (p : Tp) (v : Int) : List UInt8 := ([32, (if v = 1 then 114 else 99)] ++ decI p.gate) ++ ([64] ++ decI p.time)
def tapsR (taps : List Tp) (vs : List Int) (id : Int) : Nat → List UInt8
 | 0 => []
 | k + 1 => tapsR taps vs id k ++ (if (taps[k]!).ticket = id then tapR (taps[k]!) (vs[k]!) else [])
theorem tapsR_succ (taps : List Tp) (vs : List Int) (id : Int) (k : Nat) : tapsR taps vs id (k + 1) = tapsR taps vs id k ++ (if (taps[k]!).ticket = id then tapR (taps[k]!) (vs[k]!) else []) := rfl
theorem tapsR_yes {taps : List Tp} {vs : List Int} {id : Int} {k : Nat} (hk : k < taps.length) (hv : k < vs.length) (h : taps[k].ticket = id) : tapsR taps vs id (k + 1) = tapsR taps vs id k ++ tapR taps[k] vs[k] := by
 rw [tapsR_succ, List.getElem!_eq_getElem?_getD, List.getElem?_eq_getElem hk, List.getElem!_eq_getElem?_getD, List.getElem?_eq_getElem hv]
 simp [h]
theorem tapsR_no {taps : List Tp} {vs : List Int} {id : Int} {k : Nat} (hk : k < taps.length) (h : taps[k].ticket ≠ id) : tapsR taps vs id (k + 1) = tapsR taps vs id k := by
 rw [tapsR_succ, List.getElem!_eq_getElem?_getD, List.getElem?_eq_getElem hk]
 simp [h]
def headR (l : Ld) (t : Tk) : List UInt8 := codeOf t ++ ([32] ++ (decI ((ridesOf l.taps l.verdicts t.id).length : Nat) ++ ([47] ++ decI (restOf l t))))
def lineR (l : Ld) (t : Tk) : List UInt8 := headR l t ++ tapsR l.taps l.verdicts t.id l.taps.length
def leadR (x : Int × Bool) : List UInt8 := [108, 101, 97, 100, 101, 114, 32] ++ ((if x.2 = true then decI x.1 else [45]) ++ [10])
def markR (ids : List Int) (id : Int) : List UInt8 := if ids.contains id = true then [33] else []
def textTo (s : St) : Nat → List UInt8
 | 0 => leadR (whoV s.views)
 | k + 1 => (textTo s k ++ lineR s.ledger (s.ledger.tickets[k]!)) ++ (markR s.denied.ids (s.ledger.tickets[k]!).id ++ [10])
theorem textTo_succ (s : St) {k : Nat} (hk : k < s.ledger.tickets.length) : textTo s (k + 1) = (textTo s k ++ lineR s.ledger s.ledger.tickets[k]) ++ (markR s.denied.ids s.ledger.tickets[k].id ++ [10]) := by
 show (textTo s k ++ lineR s.ledger (s.ledger.tickets[k]!)) ++ (markR s.denied.ids (s.ledger.tickets[k]!).id ++ [10]) = _
 rw [List.getElem!_eq_getElem?_getD, List.getElem?_eq_getElem hk]
 rfl
def textR (s : St) : List UInt8 := textTo s s.ledger.tickets.length
def lineAll (l : Ld) (id : Int) : List UInt8 × Int :=
 if ckLedger l ≠ 0 then ([], ckLedger l) else match ticketOf l.tickets id with
  | none => ([], 5)
  | some t => (lineR l t, 0)
def textAll (s : St) : List UInt8 × Int := if ckSt s ≠ 0 then ([], ckSt s) else (textR s, 0)

/- no sign but the last one of a line ends a line -/
theorem dec_no (n : Nat) : (10 : UInt8) ∉ Lib.decDigits n := by
 induction n using Nat.strongRecOn with
 | _ n ih =>
  have hd : ∀ k < 10, (10 : UInt8) ≠ UInt8.ofNat (48 + k) := by decide
  by_cases h : n < 10
  ·rw [dec_small h]
   simpa using hd n h
  ·rw [dec_big h]
   simp only [List.mem_append, List.mem_singleton, not_or]
   exact ⟨ih (n / 10) (by omega), hd (n % 10) (by omega)⟩
theorem decI_no (n : Int) : (10 : UInt8) ∉ decI n := dec_no _
theorem signs_no {l : List UInt8} (h : areSigns l = true) : (10 : UInt8) ∉ l := by
 intro hm
 unfold areSigns at h
 have := List.all_eq_true.1 h 10 hm
 revert this
 decide
theorem code_no (t : Tk) : (10 : UInt8) ∉ codeOf t := signs_no (codeOf_signs t)
theorem tapR_no (p : Tp) (v : Int) : (10 : UInt8) ∉ tapR p v := by
 unfold tapR
 simp only [List.mem_append, not_or]
 refine ⟨⟨?_, decI_no _⟩, by decide, decI_no _⟩
 split <;> decide
theorem tapsR_not (taps : List Tp) (vs : List Int) (id : Int) : ∀ k, (10 : UInt8) ∉ tapsR taps vs id k
 | 0 => by simp [tapsR]
 | k + 1 => by
  rw [tapsR_succ]
  simp only [List.mem_append, not_or]
  refine ⟨tapsR_not taps vs id k, ?_⟩
  split
  ·exact tapR_no _ _
  ·simp
theorem lineR_no (l : Ld) (t : Tk) : (10 : UInt8) ∉ lineR l t := by
 unfold lineR headR
 simp only [List.mem_append, not_or]
 exact ⟨⟨code_no t, by decide, decI_no _, by decide, decI_no _⟩, tapsR_not _ _ _ _⟩
theorem count_no {l : List UInt8} (h : (10 : UInt8) ∉ l) : l.countP (· == 10) = 0 := by
 rw [List.countP_eq_zero]
 intro x hx hh
 rw [beq_iff_eq] at hh
 subst hh
 exact h hx
theorem leadR_count (x : Int × Bool) : (leadR x).countP (· == 10) = 1 := by
 unfold leadR
 rw [List.countP_append, List.countP_append]
 have : (if x.2 = true then decI x.1 else [45]).countP (· == 10) = 0 := by
  split
  ·exact count_no (decI_no _)
  ·decide
 rw [this]
 decide
theorem textTo_count (s : St) : ∀ k, k ≤ s.ledger.tickets.length → (textTo s k).countP (· == 10) = k + 1
 | 0, _ => leadR_count _
 | k + 1, h => by
  rw [textTo_succ s h, List.countP_append, List.countP_append, List.countP_append, textTo_count s k (by omega), count_no (lineR_no _ _)]
  have : (markR s.denied.ids s.ledger.tickets[k].id).countP (· == 10) = 0 := by
   unfold markR
   split <;> decide
  rw [this]
  rfl
/- bounds -/
theorem rest_pos {l : Ld} (h : ckLedger l = 0) {t : Tk} (ht : t ∈ l.tickets) : 0 ≤ restOf l t ∧ restOf l t ≤ 60 := by
 have h1 := rides_most l.tickets t ht _ l.taps l.verdicts rfl h
 have h2 := most_in (tickets_mem (right_iff.1 h).2.2.2.1 t ht)
 unfold restOf
 omega
/- the two that must be in any case -/
theorem dec_one {n : Nat} (h : n < 10) : decI (n : Int) = [UInt8.ofNat (48 + n)] := by rw [decI_nat, dec_small h]
theorem dec_two {n : Nat} (h : 10 ≤ n) (h2 : n < 100) : decI (n : Int) = [UInt8.ofNat (48 + n / 10), UInt8.ofNat (48 + n % 10)] := by
 rw [decI_nat, dec_big (by omega), dec_small (by omega)]
 rfl
/- lengths -/
theorem dec_len (n : Nat) : (Lib.decDigits n).length ≤ n + 1 := by
 induction n using Nat.strongRecOn with
 | _ n ih =>
  by_cases h : n < 10
  ·rw [dec_small h]; simp
  ·rw [dec_big h, List.length_append, List.length_singleton]
   have := ih (n / 10) (by omega)
   omega
theorem decI_len {n : Int} {m : Nat} (h : n ≤ m) : (decI n).length ≤ m + 1 := by
 have := dec_len n.toNat
 unfold decI
 omega
theorem tapR_len {p : Tp} (v : Int) (h1 : p.gate < 3) (h2 : p.time ≤ 9999) : (tapR p v).length ≤ 10010 := by
 have a := decI_len (m := 2) (show p.gate ≤ ((2 : Nat) : Int) by omega)
 have b := decI_len (m := 9999) (show p.time ≤ ((9999 : Nat) : Int) by omega)
 unfold tapR
 simp only [List.length_append, List.length_cons, List.length_nil]
 omega
theorem tapsR_len {taps : List Tp} (vs : List Int) (id : Int) (h : ∀ x ∈ taps, x.gate < 3 ∧ x.time ≤ 9999) : ∀ k, k ≤ taps.length → (tapsR taps vs id k).length ≤ 10010 * k
 | 0, _ => by simp [tapsR]
 | k + 1, hk => by
  have ih := tapsR_len vs id h k (by omega)
  have hkl : k < taps.length := by omega
  rw [tapsR_succ, List.getElem!_eq_getElem?_getD, List.getElem?_eq_getElem hkl, List.length_append]
  simp only [Option.getD_some]
  have ht := tapR_len (p := taps[k]) (vs[k]!) (h _ (List.getElem_mem hkl)).1 (h _ (List.getElem_mem hkl)).2
  split
  ·omega
  ·simp only [List.length_nil]; omega
theorem headR_len {l : Ld} (h : ckLedger l = 0) {t : Tk} (ht : t ∈ l.tickets) : (headR l t).length ≤ 138 := by
 have h1 := decI_len (m := 60) (rest_pos h ht).2
 have h2 := decI_len (n := ((ridesOf l.taps l.verdicts t.id).length : Nat)) (m := 60) (by have := Nat.le_trans (ridesOf_len l.taps l.verdicts t.id) (right_iff.1 h).2.1; omega)
 unfold headR
 simp only [List.length_append, List.length_cons, List.length_nil, codeOf_length]
 omega
theorem right_in {l : Ld} (h : ckLedger l = 0) : ∀ x ∈ l.taps, x.gate < 3 ∧ x.time ≤ 9999 := fun x hx => ⟨(gate_in (right_known h x hx).1).2, (right_times h x hx).2⟩
theorem lineR_len {l : Ld} (h : ckLedger l = 0) {t : Tk} (ht : t ∈ l.tickets) : (lineR l t).length ≤ 600738 := by
 have h1 := headR_len h ht
 have h2 := tapsR_len l.verdicts t.id (right_in h) l.taps.length (Nat.le_refl _)
 have h3 := (right_iff.1 h).2.1
 unfold lineR
 rw [List.length_append]
 omega
theorem leadR_len {x : Int × Bool} (h : x.1 ≤ 1) : (leadR x).length ≤ 100 := by
 unfold leadR
 simp only [List.length_append, List.length_cons, List.length_nil]
 split
 ·have := decI_len (m := 1) (show x.1 ≤ ((1 : Nat) : Int) by omega)
  omega
 ·simp
theorem markR_len (ids : List Int) (id : Int) : (markR ids id).length ≤ 1 := by
 unfold markR
 split <;> simp
theorem textTo_len {s : St} (h : ckLedger s.ledger = 0) (hw : (whoV s.views).1 ≤ 1) : ∀ k, k ≤ s.ledger.tickets.length → (textTo s k).length ≤ 100 + 600740 * k
 | 0, _ => leadR_len hw
 | k + 1, hk => by
  have ih := textTo_len h hw k (by omega)
  have h1 := lineR_len h (List.getElem_mem (show k < s.ledger.tickets.length by omega))
  have h2 := markR_len s.denied.ids s.ledger.tickets[k].id
  rw [textTo_succ s (by omega)]
  simp only [List.length_append, List.length_cons, List.length_nil]
  omega
end Go.Proofs.YteojjbhadgkfgaaDoor

/- strconv.Itoa, laid from the shelf in plain words. -/
namespace Go.Proofs.YteojjbhadgkfgaaDoor
set_option linter.unusedSimpArgs false
set_option linter.unusedVariables false
set_option maxRecDepth 100000
open Go Go.RowKit Go.Shelf Lb

def itRen : Go.Shelf.Ren := ⟨fun | 171 => 19 | 243 => 58 | 246 => 82 | 283 => 95 | 284 => 96 | 285 => 97 | 286 => 98 | 129 => 104 | 317 => 103 | 318 => 105 | 319 => 106 | 320 => 107 | 337 => 109 | 338 => 110 | n => n, fun | 3 => 3 | 9 => 9 | 2 => 2 | 4 => 4 | 171 => 125 | 0 => 0 | 53 => 107 | 37 => 98 | 5 => 5 | 173 => 128 | 212 => 133 | 51 => 134 | 20 => 20 | 213 => 135 | 46 => 109 | 232 => 138 | 233 => 139 | n => n, fun | 17 => 0 | 18 => 1 | 19 => 2 | n => n⟩
theorem itLays : Go.Proofs.LaysM.n171 Tryd.prog itRen := {
 mixed := by kernel_rfl
 f129 := Tryd.func104.trans (congrArg some (by kernel_rfl))
 f171 := Tryd.func19.trans (congrArg some (by kernel_rfl))
 f243 := Tryd.func58.trans (congrArg some (by kernel_rfl))
 f246 := Tryd.func82.trans (congrArg some (by kernel_rfl))
 f283 := Tryd.func95.trans (congrArg some (by kernel_rfl))
 f284 := Tryd.func96.trans (congrArg some (by kernel_rfl))
 f285 := Tryd.func97.trans (congrArg some (by kernel_rfl))
 f286 := Tryd.func98.trans (congrArg some (by kernel_rfl))
 f317 := Tryd.func103.trans (congrArg some (by kernel_rfl))
 f318 := Tryd.func105.trans (congrArg some (by kernel_rfl))
 f319 := Tryd.func106.trans (congrArg some (by kernel_rfl))
 f320 := Tryd.func107.trans (congrArg some (by kernel_rfl))
 f337 := Tryd.func109.trans (congrArg some (by kernel_rfl))
 f338 := Tryd.func110.trans (congrArg some (by kernel_rfl))
 t0 := Tryd.underlying0
 a0 := Tryd.isAgg0
 z0 := Tryd.sizeOf0
 v0 := Tryd.zeroValue0
 t2 := Tryd.underlying2
 a2 := Tryd.isAgg2
 z2 := Tryd.sizeOf2
 v2 := Tryd.zeroValue2
 t3 := Tryd.underlying3
 a3 := Tryd.isAgg3
 z3 := Tryd.sizeOf3
 v3 := Tryd.zeroValue3
 t4 := Tryd.underlying4
 a4 := Tryd.isAgg4
 z4 := Tryd.sizeOf4
 v4 := Tryd.zeroValue4
 t5 := Tryd.underlying5
 a5 := Tryd.isAgg5
 z5 := Tryd.sizeOf5
 v5 := Tryd.zeroValue5
 t9 := Tryd.underlying9
 a9 := Tryd.isAgg9
 z9 := Tryd.sizeOf9
 v9 := Tryd.zeroValue9
 t20 := Tryd.underlying20
 a20 := Tryd.isAgg20
 z20 := Tryd.sizeOf20
 v20 := Tryd.zeroValue20
 t37 := Tryd.underlying98
 a37 := Tryd.isAgg98
 z37 := Tryd.sizeOf98
 v37 := Tryd.zeroValue98
 t46 := Tryd.underlying109
 a46 := Tryd.isAgg109
 z46 := Tryd.sizeOf109
 v46 := Tryd.zeroValue109
 t51 := Tryd.underlying134
 a51 := Tryd.isAgg134
 z51 := Tryd.sizeOf134
 v51 := Tryd.zeroValue134
 t53 := Tryd.underlying107
 a53 := Tryd.isAgg107
 z53 := Tryd.sizeOf107
 v53 := Tryd.zeroValue107
 t171 := Tryd.underlying125
 a171 := Tryd.isAgg125
 z171 := Tryd.sizeOf125
 v171 := Tryd.zeroValue125
 t173 := Tryd.underlying128
 a173 := Tryd.isAgg128
 z173 := Tryd.sizeOf128
 v173 := Tryd.zeroValue128
 t212 := Tryd.underlying133
 a212 := Tryd.isAgg133
 z212 := Tryd.sizeOf133
 v212 := Tryd.zeroValue133
 t213 := Tryd.underlying135
 a213 := Tryd.isAgg135
 z213 := Tryd.sizeOf135
 t232 := Tryd.underlying138
 a232 := Tryd.isAgg138
 z232 := Tryd.sizeOf138
 v232 := Tryd.zeroValue138
 t233 := Tryd.underlying139
 a233 := Tryd.isAgg139
 z233 := Tryd.sizeOf139
 v233 := Tryd.zeroValue139
 g17 := by kernel_rfl
 g18 := by kernel_rfl
 g19 := by kernel_rfl
 i0 := by kernel_rfl
 i2 := by kernel_rfl
 i3 := by kernel_rfl
 i4 := by kernel_rfl
 i5 := by kernel_rfl
 i9 := by kernel_rfl
 i20 := by kernel_rfl
 i37 := by kernel_rfl
 i46 := by kernel_rfl
 i51 := by kernel_rfl
 i53 := by kernel_rfl
 i171 := by kernel_rfl
 i173 := by kernel_rfl
 i212 := by kernel_rfl
 i232 := by kernel_rfl
 i233 := by kernel_rfl
 m17 := by kernel_rfl
 m18 := by kernel_rfl
 m19 := by kernel_rfl }
/-- the table that it reads -/
def tabN : String := match Rows.reportTellsRow.laid with
 | [_, _, x] => x.1
 | _ => Rows.reportTellsRow.spec
/-- it reads so in whatever world comes behind -/
def TabE (w : World) : Prop := ∀ w', Ext w w' → Lib.TabIs Tryd.prog w' tabN .u64 Lib.pow10Tab
theorem TabE.ext {w w' : World} (h : TabE w) (he : Ext w w') : TabE w' := fun v hv => h v (he.trans hv)
theorem itoa_c (n : Nat) (hn : n < 9223372036854775808) (w : World) (ht : Lib.TabIs Tryd.prog w tabN .u64 Lib.pow10Tab) :
  Calls Tryd.prog 19 #[.int .i64 n] w fun e w' => e = .returned (.string (bs (Lib.decDigits n))) ∧ Ext w w' := by
 refine (Any.strconv_Itoa itLays (n : Int) (by omega) (by omega) w ht).mono ?_
 rintro e w' ⟨rfl, k, os, rfl⟩
 rw [Lib.itoa_nonneg]
 exact ⟨rfl, Lib.below_grow _ _ (Nat.le_refl _) k os⟩
theorem tabE_of {w : World} (h : Lib.TabIs Tryd.prog w tabN .u64 Lib.pow10Tab) : TabE w := Lib.tabBelow_of_tabIs h
end Go.Proofs.YteojjbhadgkfgaaDoor

/- The reference's Digits. -/
namespace Go.Proofs.YteojjbhadgkfgaaDoor
set_option linter.unusedSimpArgs false
set_option linter.unusedVariables false
set_option maxRecDepth 100000
open Go Go.RowKit Lb

theorem bs_app (a b : List UInt8) : bs a ++ bs b = bs (a ++ b) := by simp [bs, ByteArray.ext_iff]

end Go.Proofs.YteojjbhadgkfgaaDoor

/- A report's writer: put. -/
namespace Go.Proofs.YteojjbhadgkfgaaDoor
set_option linter.unusedSimpArgs false
set_option linter.unusedVariables false
set_option maxRecDepth 100000
open Go Go.RowKit Lb

/-- texts in cells -/
def strs (l : List (List UInt8)) : Array Value := (l.map fun x => Value.string (bs x)).toArray
theorem strs_get (l : List (List UInt8)) (k : Nat) (h : k < l.length) : (strs l)[k]? = some (.string (bs l[k])) := by simp [strs, h]
theorem flat_take (l : List (List UInt8)) (k : Nat) (h : k < l.length) : (l.take (k + 1)).flatten = (l.take k).flatten ++ l[k] := by
 rw [List.take_succ_eq_append_getElem h, List.flatten_append]
 simp only [List.flatten_cons, List.flatten_nil, List.append_nil]
theorem flat_len (l : List (List UInt8)) (k : Nat) : (l.take k).flatten.length ≤ l.flatten.length := by
 conv => rhs; rw [← List.take_append_drop k l, List.flatten_append, List.length_append]
 omega
set_option maxHeartbeats 4000000 in
theorem writer_put (l : List (List UInt8)) (acc : List UInt8) (s0 s1 s2 : Value) (p g : Nat) (w : World) (hl : l.length ≤ 100) (hb : acc.length + l.flatten.length ≤ 1000000000) (hne : g ≠ p) (hp : Row w p #[s0, s1, s2, .string (bs acc)]) (hg : Row w g (strs l)) :
  Calls Tryd.prog 20 #[.pointer (some ⟨p, 0, none⟩), .slice (some ⟨g, 0, none⟩) l.length l.length] w fun e w' => e = .returned (.tuple #[]) ∧ Fr (fun q => q = p) w w' ∧ Row w' p #[s0, s1, s2, .string (bs (acc ++ l.flatten))] := by
 have HP := Lib.hid hp
 have HG := Lib.hid hg
 have HBB := Lib.hid hb
 clear hp hg hb
 go_enter Tryd.func20, Tryd.ntmps20
 go_wp2_with fail
 go_loopg [5, 8] l.length (fun gg _ s8 wr => ∃ k : Nat, k ≤ l.length ∧ l.length - k ≤ gg ∧ s8 = .int .i64 k ∧ Aside (Fr (fun q => q = p) w wr ∧ Row wr p #[s0, s1, s2, .string (bs (acc ++ (l.take k).flatten))]))
 case atStart => exact ⟨0, by omega, by omega, rfl, Fr.refl _ _, by simpa using HP.out⟩
 case round =>
  obtain ⟨k, hk, hgg, rfl, HV⟩ := hrel
  have HF := Lib.hid HV.out.1
  have HQ := Lib.hid HV.out.2
  have q := HV.out.2.2.1
  have f := HV.out.2.2.2
  have lp := HV.out.2.1
  by_cases hlt : k < l.length
  ·have hlt' : (k : Int) < (l.length : Int) := by omega
   have hx : wr.cell? ⟨g, k, none⟩ = some (.string (bs l[k])) := by
    have h := (HF.out.row hne HG.out).2.1 k
    rw [strs_get l k hlt] at h
    exact h
   have htk := flat_take l k hlt
   have HT := Lib.hid (show acc ++ (l.take (k + 1)).flatten = (acc ++ (l.take k).flatten) ++ l[k] by rw [htk, List.append_assoc])
   have hb := HBB.out
   have hfl : (l.take k).flatten.length + l[k].length ≤ l.flatten.length := by
    have h1 := flat_len l (k + 1)
    rw [htk, List.length_append] at h1
    exact h1
   have hab : (acc ++ (l.take k).flatten).length + l[k].length ≤ 1000000000 := by rw [List.length_append]; omega
   clear htk HV hfl hb
   generalize l[k] = x at *
   generalize acc ++ (l.take k).flatten = a at *
   have hs1 := bs_size a
   have hs2 := bs_size x
   go_wp2_with fail
   go_roundg (l.length - (k + 1))
   case measure => omega
   case rel =>
    refine ⟨k + 1, by omega, by omega, by go_num, Fr.setC rfl HF.out, ?_⟩
    have h := Row.set_ (i := 3) (u := .string (bs (acc ++ (l.take (k + 1)).flatten))) HQ.out
    rw [HT.out, ← bs_app] at h ⊢
    simpa only [List.setIfInBounds_toArray, List.set_cons_zero, List.set_cons_succ] using h
  ·have hge : ¬ (k : Int) < (l.length : Int) := by omega
   have hkl : k = l.length := by omega
   have HK := Lib.hid hkl
   clear hkl
   go_wp2_with fail
   go_end0
   refine ⟨rfl, HF.out, ?_⟩
   have h := HQ.out
   rw [HK.out, List.take_length] at h
   exact h
end Go.Proofs.YteojjbhadgkfgaaDoor

/- A report's writer: the line of a ticket. -/
namespace Go.Proofs.YteojjbhadgkfgaaDoor
set_option linter.unusedSimpArgs false
set_option linter.unusedVariables false
set_option maxRecDepth 100000
open Go Go.RowKit Lb

set_option maxHeartbeats 16000000 in
theorem writer_line (tks : List Tk) (taps : List Tp) (vs : List Int) (s0 s1 s2 : Value) (i : Nat) (hi : i < tks.length) (acc : List UInt8) (p : Nat) (w0 w : World) (hacc : acc.length ≤ 100000000) (HT : TabE w0) (hE : Ext w0 w) (hp0 : w0.heap.size ≤ p) (hp : Row w p #[s0, s1, s2, .string (bs acc)])
  (hck : ckLedger ⟨tks, taps, vs⟩ = 0) (hr0 : RdL 6 tkc w0 s0 tks) (hr1 : RdL 5 tpc w0 s1 taps) (hr2 : RdL 1 inc w0 s2 vs) :
  Calls Tryd.prog 16 #[.pointer (some ⟨p, 0, none⟩), .int .i64 i] w fun e w' => e = .returned (.tuple #[]) ∧ Fr (fun q => q = p) w w' ∧ Row w' p #[s0, s1, s2, .string (bs (acc ++ lineR ⟨tks, taps, vs⟩ tks[i]))] := by
 have hmem : tks[i] ∈ tks := List.getElem_mem hi
 have htk0 := tickets_mem (right_iff.1 hck).2.2.2.1 _ hmem
 have HTX := Lib.hid (fun (w' : World) => code_Text tks[i] htk0 w')
 have HMN := Lib.hid (fun (w' : World) (h : Ext w0 w') => ledger_Many taps vs s0 s1 s2 tks[i].id w' (right_len hck) (by obtain ⟨A, c, h, -⟩ := hr0.form; exact ⟨_, _, _, h⟩) (hr1.ext h) (hr2.ext h))
 have HRS := Lib.hid (fun (w' : World) (h : Ext w0 w') => audit_Rest tks taps vs s0 s1 s2 i hi w' hck (hr0.ext h) (hr1.ext h) (hr2.ext h))
 have HIT := Lib.hid (fun (n : Nat) (h : n < 9223372036854775808) (w' : World) (hw : Ext w0 w') => itoa_c n h w' (HT w' hw))
 obtain ⟨m, hm⟩ : ∃ m : Nat, restOf ⟨tks, taps, vs⟩ tks[i] = m := ⟨_, (Int.toNat_of_nonneg (rest_pos hck hmem).1).symm⟩
 have hm60 := (rest_pos hck hmem).2
 have hln : (ridesOf taps vs tks[i].id).length ≤ 60 := Nat.le_trans (ridesOf_len taps vs tks[i].id) (right_iff.1 hck).2.1
 have hi' : (i : Int) < (tks.length : Int) := by omega
 have HTIM := Lib.hid (fun (k : Nat) (hk : k < taps.length) => And.intro (gate_in (right_known hck taps[k] (List.getElem_mem hk)).1) (right_times hck taps[k] (List.getElem_mem hk)))
 have hlen := right_len hck
 have h60 : taps.length ≤ 60 := (right_iff.1 hck).2.1
 have hhd : headR ⟨tks, taps, vs⟩ tks[i] = [codeOf tks[i], [32], Lib.decDigits (ridesOf taps vs tks[i].id).length, [47], Lib.decDigits m].flatten := by
  unfold headR
  rw [hm, decI_nat, decI_nat]
  simp
 have hHL : [codeOf tks[i], [32], Lib.decDigits (ridesOf taps vs tks[i].id).length, [47], Lib.decDigits m].flatten.length ≤ 138 := by rw [← hhd]; exact headR_len hck hmem
 have HTL := Lib.hid (fun (k : Nat) (hk : k ≤ taps.length) => tapsR_len vs tks[i].id (right_in hck) k hk)
 have HVS := Lib.hid (right_vs hck)
 unfold lineR
 rw [hhd, ← List.append_assoc]
 rw [hm] at HRS hm60
 obtain ⟨A0, c0, rfl, -, -⟩ := hr0.form
 obtain ⟨tb, tof, rfl, htb, g0, g1, g2, g3, g4, g5⟩ := (hr0.ext hE).tk_at rfl hi
 have HR1 := Lib.hid hr1
 have HR2 := Lib.hid hr2
 obtain ⟨A, c, rfl, -, -⟩ := hr1.form
 obtain ⟨A2, c2, rfl, -, -⟩ := hr2.form
 have HEX := Lib.hid (And.intro trivial hE)
 have HPR := Lib.hid hp
 have q := hp.2.1
 have f := hp.2.2
 have lp := hp.1
 have HLEN := Lib.hid (And.intro hlen h60)
 clear hr0 hr1 hr2 hp hE hck hhd hm hmem htk0 HT hlen h60
 generalize ridesOf taps vs tks[i].id = R at *
 generalize tks[i] = t at *
 obtain ⟨t0, t1, t2, t3, t4, t5⟩ := t
 simp only [tkc] at g0 g1 g2 g3 g4 g5 HMN HTX
 obtain ⟨n, hn⟩ : ∃ n, n = R.length := ⟨_, rfl⟩
 rw [← hn] at HMN hln hHL ⊢
 clear hn
 generalize codeOf ⟨t0, t1, t2, t3, t4, t5⟩ = C at *
 go_enter Tryd.func16, Tryd.ntmps16
 go_upto_region 1 with fail
 (apply wp_gen2 (w0 := w) (g0 := p) (g1 := w.heap.size); (focus (exact rowA)); (focus (exact rowA)); (focus (exact extA)); intro W HW hzW Ra_0 Ra_1; (try simp only [lSet, World.size_alloc, size_set, World.heap_drewN, size_drew] at hzW Ra_0 Ra_1); have la_0 := Ra_0.out.size; have la_1 := Ra_1.out.size)
 have HEW := Lib.hid (And.intro trivial (HEX.out.2.trans HW.out))
 have HWW := Lib.hid (And.intro trivial HW.out)
 have HK := Lib.hid (fun (w' : World) (h : Ext W w') => And.intro (Row.ext h Ra_0.out).2.1 ((Row.ext h Ra_1.out).2.1))
 clear g0 g1 g2 g3 g4 g5 q f
 (refine T_begin (fun w' => Ext W w') 19 (by kernel_rfl) ((Ext.refl _).drew) (fun hS => ?_); simp only [List.length_cons, List.length_nil])
 (refine tkA 0 HK hS ?_; (try simp only [Act.put, lSet]); refine tkA 1 HK hS ?_; (try simp only [Act.put, lSet]); refine tkA 3 HK hS ?_; (try simp only [Act.put, lSet]); refine tkA 4 HK hS ?_; (try simp only [Act.put, lSet]); refine tkA 5 HK hS ?_; (try simp only [Act.put, lSet]); refine tkA 6 HK hS ?_; (try simp only [Act.put, lSet]); refine tkA 7 HK hS ?_; (try simp only [Act.put, lSet]); refine tkA 8 HK hS ?_; (try simp only [Act.put, lSet]); refine tkA 11 HK hS ?_; (try simp only [Act.put, lSet]); refine tkA 12 HK hS ?_; (try simp only [Act.put, lSet]); refine tkA 13 HK hS ?_; (try simp only [Act.put, lSet]); refine tkA 14 HK hS ?_; (try simp only [Act.put, lSet]); refine tkA 15 HK hS ?_; (try simp only [Act.put, lSet]))
 (refine T_only (i := 2) rfl (by kernel_rfl) rfl (fun K hK => ?_); go_simp)
 refine (HTX.out _).mono ?_
 rintro e w1 ⟨rfl, h1⟩
 have H1 := Lib.hid h1
 clear h1 hS
 (go_wp2_with fail; have hS : Ext W w1 := by exact extA); (refine hK.out _ _ (.inr hS) ?_; clear hK; (try simp only [Act.put, lSet]))
 (refine T_only (i := 9) rfl (by kernel_rfl) rfl (fun K hK => ?_); go_simp)
 refine (HMN.out _ (HEW.out.2.trans hS)).mono ?_
 rintro e w2 ⟨rfl, h1⟩
 have H2 := Lib.hid h1
 clear h1 hS
 (go_wp2_with fail; have hS : Ext W w2 := by exact extA); (refine hK.out _ _ (.inr hS) ?_; clear hK; (try simp only [Act.put, lSet]))
 (refine T_only (i := 10) rfl (by kernel_rfl) rfl (fun K hK => ?_); go_simp)
 refine (HIT.out _ (by omega) _ (HEW.out.2.trans hS)).mono ?_
 rintro e w3 ⟨rfl, h1⟩
 have H3 := Lib.hid h1
 clear h1 hS
 (go_wp2_with fail; have hS : Ext W w3 := by exact extA); (refine hK.out _ _ (.inr hS) ?_; clear hK; (try simp only [Act.put, lSet]))
 (refine T_only (i := 16) rfl (by kernel_rfl) rfl (fun K hK => ?_); go_simp)
 refine (HRS.out _ (HEW.out.2.trans hS)).mono ?_
 rintro e w4 ⟨rfl, h1⟩
 have H4 := Lib.hid h1
 clear h1 hS
 (go_wp2_with fail; have hS : Ext W w4 := by exact extA); (refine hK.out _ _ (.inr hS) ?_; clear hK; (try simp only [Act.put, lSet]))
 (refine T_only (i := 17) rfl (by kernel_rfl) rfl (fun K hK => ?_); go_simp)
 refine (HIT.out _ (by omega) _ (HEW.out.2.trans hS)).mono ?_
 rintro e w5 ⟨rfl, h1⟩
 have H5 := Lib.hid h1
 have hz5 : W.heap.size ≤ w5.heap.size := (show Ext W w5 by exact extA).size
 clear h1 hS
 (go_wp2_with fail; have hS : Ext W w5 := by exact extA); (refine hK.out _ _ (.inr hS) ?_; clear hK; (try simp only [Act.put, lSet]))
 clear HK
 (refine T_only (i := 18) rfl (by kernel_rfl) rfl (fun K hK => ?_); go_simp)
 refine hK.out _ _ (.inr (show Ext W _ by exact extA)) ?_
 clear hK
 (try simp only [Act.put, lSet])
 refine T_only (i := 19) rfl (by kernel_rfl) rfl (fun K hK => ?_)
 go_simp
 refine (writer_put [C, [32], Lib.decDigits n, [47], Lib.decDigits m] acc _ _ _ p w5.heap.size _ (by simp) (by omega) (by omega) (by exact rowA) (Row.newAt rfl)).mono ?_
 rintro e w6 ⟨rfl, h6, hp6⟩
 have hX : Ext W (w5.alloc (.cells (strs [C, [32], Lib.decDigits n, [47], Lib.decDigits m]) 9)) := by exact extA
 have HE6 := Lib.hid (And.intro trivial (Ext.fr (HEW.out.2.trans hX) h6 (by rintro q rfl; exact hp0)))
 have HF6 := Lib.hid ((Fr.ofExt (own := fun q => q = p) (HWW.out.2.trans hX)).trans h6)
 have HP6 := Lib.hid hp6
 have HB6 := Lib.hid (h6.row (g := w.heap.size) (cs := #[.int .i64 t0, .int .i64 t1, .int .i64 t2, .int .i64 t3, .int .i64 t4, .int .i64 t5]) (by omega) (by exact rowA))
 clear h6 hp6 hX hS H1 H2 H3 H4 H5 HMN HRS HTX Ra_0 Ra_1
 go_wp2_with fail
 refine hK.out _ _ (.inl (by kernel_rfl)) ?_
 clear hK
 (try simp only [Act.put, lSet])
 refine T_done (by kernel_rfl) ?_ _
 have hac : (acc ++ [C, [32], Lib.decDigits n, [47], Lib.decDigits m].flatten).length ≤ 100000138 := by rw [List.length_append]; omega
 generalize hG : acc ++ [C, [32], Lib.decDigits n, [47], Lib.decDigits m].flatten = ac2 at *
 have HG := Lib.hid hG
 clear hHL hG
 apply Row.use HP6.out; intro q6 f6 l6 R6
 apply Row.use HB6.out; intro q7 f7 l7 R7
 go_wp2_with fail
 clear HP6 HB6
 go_loopg [5, 6, 7, 42] taps.length (fun gg _ _ _ s42 wr => ∃ k : Nat, k ≤ taps.length ∧ taps.length - k ≤ gg ∧ s42 = .int .i64 k ∧ Aside (Ext w0 wr ∧ Fr (fun q => q = p) w wr ∧ Row wr p #[.slice (some ⟨tb, tof, none⟩) tks.length c0, .slice A taps.length c, .slice A2 vs.length c2, .string (bs (ac2 ++ tapsR taps vs t0 k))] ∧ Row wr w.heap.size #[.int .i64 t0, .int .i64 t1, .int .i64 t2, .int .i64 t3, .int .i64 t4, .int .i64 t5]))
 case atStart => exact ⟨0, by omega, by omega, rfl, HE6.out.2, HF6.out, by rw [show ac2 ++ tapsR taps vs t0 0 = ac2 from List.append_nil _]; exact R6.out, R7.out⟩
 case round =>
  obtain ⟨k, hk, hgg, rfl, HV⟩ := hrel
  obtain ⟨v1, v2, v3, v4⟩ := HV.out
  have HE := Lib.hid (And.intro trivial v1)
  have HF := Lib.hid v2
  have HP := Lib.hid v3
  have HB := Lib.hid v4
  clear HV v1 v2 v3 v4 q6 f6 l6 R6 q7 f7 l7 R7 HE6 HF6
  apply Row.use HP.out; intro q8 f8 l8 R8
  apply Row.use HB.out; intro q9 f9 l9 R9
  by_cases hlt : k < taps.length
  ·have hlt' : (k : Int) < (taps.length : Int) := by omega
   obtain ⟨b, o, rfl, hb, d0, d1, d2, d3, d4⟩ := (HR1.out.ext HE.out.2).tap_at rfl hlt
   have hkv : k < vs.length := by have := HLEN.out.1; omega
   have hkv' : (k : Int) < (vs.length : Int) := by omega
   have htim := HTIM.out k hlt
   have htl := HTL.out k hk
   have h60 := HLEN.out.2
   by_cases hx : taps[k].ticket = t0
   ·have hxb : (taps[k].ticket != t0) = false := by simpa using hx
    obtain ⟨b2, o2, rfl, hb2, e0⟩ := (HR2.out.ext HE.out.2).num_at rfl hkv
    have hvv := HVS.out vs[k] (List.getElem_mem hkv)
    have HS := Lib.hid (tapsR_yes hlt hkv hx)
    have htr := tapR_len vs[k] htim.1.2 htim.2.2
    obtain ⟨ng, hng⟩ : ∃ n : Nat, taps[k].gate = n := ⟨_, (Int.toNat_of_nonneg htim.1.1).symm⟩
    obtain ⟨nt, hnt⟩ : ∃ n : Nat, taps[k].time = n := ⟨_, (Int.toNat_of_nonneg htim.2.1).symm⟩
    have htR : tapR taps[k] vs[k] = [[32, if vs[k] = 1 then 114 else 99], Lib.decDigits ng, [64], Lib.decDigits nt].flatten := by
     unfold tapR
     rw [hng, hnt, decI_nat, decI_nat]
     simp
    rw [htR] at htr HS
    rw [hng] at d1 htim
    rw [hnt] at d3 htim
    have HS3 := Lib.hid (show ac2 ++ tapsR taps vs t0 (k + 1) = (ac2 ++ tapsR taps vs t0 k) ++ [[32, if vs[k] = 1 then 114 else 99], Lib.decDigits ng, [64], Lib.decDigits nt].flatten by rw [HS.out, List.append_assoc])
    clear htR hng hnt HS
    have hac2 : (ac2 ++ tapsR taps vs t0 k).length ≤ 110000000 := by rw [List.length_append]; omega
    generalize ac2 ++ tapsR taps vs t0 k = ac3 at *
    generalize taps[k] = tp at *
    generalize vs[k] = vk at *
    obtain ⟨y0, y1, y2, y3, y4⟩ := tp
    simp only at d0 d1 d2 d3 d4 hxb htim
    by_cases hv : vk = 1
    ·subst hv
     rw [if_pos rfl] at htr HS3
     go_upto_region 9 with fail
     (apply wp_gen3 (w0 := wr) (g0 := p) (g1 := w.heap.size) (g2 := wr.heap.size); (focus (exact rowA)); (focus (exact rowA)); (focus (exact rowA)); (focus (exact extA)); intro W HW hzW Rz_0 Rz_1 Rz_2; (try simp only [lSet, World.size_alloc, size_set, World.heap_drewN, size_drew] at hzW Rz_0 Rz_1 Rz_2); have lz_0 := Rz_0.out.size; have lz_1 := Rz_1.out.size; have lz_2 := Rz_2.out.size)
     have HER := Lib.hid (And.intro trivial (HE.out.2.trans HW.out))
     have HWW := Lib.hid (And.intro trivial HW.out)
     have HK := Lib.hid (fun (w' : World) (h : Ext W w') => And.intro (Row.ext h Rz_0.out).2.1 (And.intro (Row.ext h Rz_1.out).2.1 ((Row.ext h Rz_2.out).2.1)))
     clear q8 f8 l8 R8 q9 f9 l9 R9 d0 d1 d2 d3 d4 e0
     (refine T_begin (fun w' => Ext W w') 9 (by kernel_rfl) ((Ext.refl _).drew) (fun hS => ?_); simp only [List.length_cons, List.length_nil])
     (refine tkA 0 HK hS ?_; (try simp only [Act.put, lSet]); refine tkA 1 HK hS ?_; (try simp only [Act.put, lSet]); refine tkA 2 HK hS ?_; (try simp only [Act.put, lSet]); refine tkA 3 HK hS ?_; (try simp only [Act.put, lSet]); refine tkA 5 HK hS ?_; (try simp only [Act.put, lSet]); refine tkA 6 HK hS ?_; (try simp only [Act.put, lSet]))
     (refine T_only (i := 4) rfl (by kernel_rfl) rfl (fun K hK => ?_); go_simp)
     refine (HIT.out ng (by omega) _ (HER.out.2.trans hS)).mono ?_
     rintro e w3 ⟨rfl, h1⟩
     have H3 := Lib.hid h1
     clear h1 hS
     (go_wp2_with fail; have hS : Ext W w3 := by exact extA); (refine hK.out _ _ (.inr hS) ?_; clear hK; (try simp only [Act.put, lSet]))
     (refine T_only (i := 7) rfl (by kernel_rfl) rfl (fun K hK => ?_); go_simp)
     refine (HIT.out nt (by omega) _ (HER.out.2.trans hS)).mono ?_
     rintro e w5 ⟨rfl, h1⟩
     have H5 := Lib.hid h1
     have hz5 : W.heap.size ≤ w5.heap.size := (show Ext W w5 by exact extA).size
     clear h1 hS
     (go_wp2_with fail; have hS : Ext W w5 := by exact extA); (refine hK.out _ _ (.inr hS) ?_; clear hK; (try simp only [Act.put, lSet]))
     clear HK
     (refine T_only (i := 8) rfl (by kernel_rfl) rfl (fun K hK => ?_); go_simp)
     refine hK.out _ _ (.inr (show Ext W _ by exact extA)) ?_
     clear hK
     (try simp only [Act.put, lSet])
     refine T_only (i := 9) rfl (by kernel_rfl) rfl (fun K hK => ?_)
     go_simp
     refine (writer_put [[32, 114], Lib.decDigits ng, [64], Lib.decDigits nt] ac3 _ _ _ p w5.heap.size _ (by simp) (by omega) (by omega) (by exact rowA) (Row.newAt rfl)).mono ?_
     rintro e w6 ⟨rfl, h6, hp6⟩
     have hX : Ext W (w5.alloc (.cells (strs [[32, 114], Lib.decDigits ng, [64], Lib.decDigits nt]) 9)) := by exact extA
     have HE7 := Lib.hid (Ext.fr (HER.out.2.trans hX) h6 (by rintro q rfl; exact hp0))
     have HF7 := Lib.hid ((HF.out.step (HWW.out.2.trans hX)).trans h6)
     have HP7 := Lib.hid hp6
     have HB7 := Lib.hid (h6.row (g := w.heap.size) (cs := #[.int .i64 t0, .int .i64 t1, .int .i64 t2, .int .i64 t3, .int .i64 t4, .int .i64 t5]) (by omega) (by exact rowA))
     clear h6 hp6 hX hS
     go_wp2_with fail
     refine hK.out _ _ (.inl (by kernel_rfl)) ?_
     clear hK
     (try simp only [Act.put, lSet])
     refine T_done (by kernel_rfl) ?_ _
     go_wp2_with fail
     go_roundg (taps.length - (k + 1))
     case measure => omega
     case rel => exact ⟨k + 1, by omega, by omega, by go_num, HE7.out, HF7.out, by rw [HS3.out]; exact HP7.out, HB7.out⟩
    ·have hv2 : vk = 2 := by omega
     subst hv2
     rw [if_neg (by decide)] at htr HS3
     go_upto_region 9 with fail
     (apply wp_gen3 (w0 := wr) (g0 := p) (g1 := w.heap.size) (g2 := wr.heap.size); (focus (exact rowA)); (focus (exact rowA)); (focus (exact rowA)); (focus (exact extA)); intro W HW hzW Rz_0 Rz_1 Rz_2; (try simp only [lSet, World.size_alloc, size_set, World.heap_drewN, size_drew] at hzW Rz_0 Rz_1 Rz_2); have lz_0 := Rz_0.out.size; have lz_1 := Rz_1.out.size; have lz_2 := Rz_2.out.size)
     have HER := Lib.hid (And.intro trivial (HE.out.2.trans HW.out))
     have HWW := Lib.hid (And.intro trivial HW.out)
     have HK := Lib.hid (fun (w' : World) (h : Ext W w') => And.intro (Row.ext h Rz_0.out).2.1 (And.intro (Row.ext h Rz_1.out).2.1 ((Row.ext h Rz_2.out).2.1)))
     clear q8 f8 l8 R8 q9 f9 l9 R9 d0 d1 d2 d3 d4 e0
     (refine T_begin (fun w' => Ext W w') 9 (by kernel_rfl) ((Ext.refl _).drew) (fun hS => ?_); simp only [List.length_cons, List.length_nil])
     (refine tkA 0 HK hS ?_; (try simp only [Act.put, lSet]); refine tkA 1 HK hS ?_; (try simp only [Act.put, lSet]); refine tkA 2 HK hS ?_; (try simp only [Act.put, lSet]); refine tkA 3 HK hS ?_; (try simp only [Act.put, lSet]); refine tkA 5 HK hS ?_; (try simp only [Act.put, lSet]); refine tkA 6 HK hS ?_; (try simp only [Act.put, lSet]))
     (refine T_only (i := 4) rfl (by kernel_rfl) rfl (fun K hK => ?_); go_simp)
     refine (HIT.out ng (by omega) _ (HER.out.2.trans hS)).mono ?_
     rintro e w3 ⟨rfl, h1⟩
     have H3 := Lib.hid h1
     clear h1 hS
     (go_wp2_with fail; have hS : Ext W w3 := by exact extA); (refine hK.out _ _ (.inr hS) ?_; clear hK; (try simp only [Act.put, lSet]))
     (refine T_only (i := 7) rfl (by kernel_rfl) rfl (fun K hK => ?_); go_simp)
     refine (HIT.out nt (by omega) _ (HER.out.2.trans hS)).mono ?_
     rintro e w5 ⟨rfl, h1⟩
     have H5 := Lib.hid h1
     have hz5 : W.heap.size ≤ w5.heap.size := (show Ext W w5 by exact extA).size
     clear h1 hS
     (go_wp2_with fail; have hS : Ext W w5 := by exact extA); (refine hK.out _ _ (.inr hS) ?_; clear hK; (try simp only [Act.put, lSet]))
     clear HK
     (refine T_only (i := 8) rfl (by kernel_rfl) rfl (fun K hK => ?_); go_simp)
     refine hK.out _ _ (.inr (show Ext W _ by exact extA)) ?_
     clear hK
     (try simp only [Act.put, lSet])
     refine T_only (i := 9) rfl (by kernel_rfl) rfl (fun K hK => ?_)
     go_simp
     refine (writer_put [[32, 99], Lib.decDigits ng, [64], Lib.decDigits nt] ac3 _ _ _ p w5.heap.size _ (by simp) (by omega) (by omega) (by exact rowA) (Row.newAt rfl)).mono ?_
     rintro e w6 ⟨rfl, h6, hp6⟩
     have hX : Ext W (w5.alloc (.cells (strs [[32, 99], Lib.decDigits ng, [64], Lib.decDigits nt]) 9)) := by exact extA
     have HE7 := Lib.hid (Ext.fr (HER.out.2.trans hX) h6 (by rintro q rfl; exact hp0))
     have HF7 := Lib.hid ((HF.out.step (HWW.out.2.trans hX)).trans h6)
     have HP7 := Lib.hid hp6
     have HB7 := Lib.hid (h6.row (g := w.heap.size) (cs := #[.int .i64 t0, .int .i64 t1, .int .i64 t2, .int .i64 t3, .int .i64 t4, .int .i64 t5]) (by omega) (by exact rowA))
     clear h6 hp6 hX hS
     go_wp2_with fail
     refine hK.out _ _ (.inl (by kernel_rfl)) ?_
     clear hK
     (try simp only [Act.put, lSet])
     refine T_done (by kernel_rfl) ?_ _
     go_wp2_with fail
     go_roundg (taps.length - (k + 1))
     case measure => omega
     case rel => exact ⟨k + 1, by omega, by omega, by go_num, HE7.out, HF7.out, by rw [HS3.out]; exact HP7.out, HB7.out⟩
   ·have hxb : (taps[k].ticket != t0) = true := by simpa using hx
    have HS := Lib.hid (tapsR_no (vs := vs) hlt hx)
    generalize taps[k] = tp at *
    obtain ⟨y0, y1, y2, y3, y4⟩ := tp
    simp only at d0 d1 d2 d3 d4 hxb htim
    go_wp2_with fail
    go_roundg (taps.length - (k + 1))
    case measure => omega
    case rel =>
     refine ⟨k + 1, by omega, by omega, by go_num, HE.out.2.trans (by exact extA), HF.out.step (by exact extA), ?_, by exact rowA⟩
     rw [HS.out]
     exact rowA
  ·have hge : ¬ (k : Int) < (taps.length : Int) := by omega
   have HK2 := Lib.hid (show k = taps.length by omega)
   go_wp2_with fail
   go_end0
   refine ⟨rfl, HF.out, ?_⟩
   have h := HP.out
   rw [HK2.out, ← HG.out] at h
   simpa using h
end Go.Proofs.YteojjbhadgkfgaaDoor

/- report.Line. -/
namespace Go.Proofs.YteojjbhadgkfgaaDoor
set_option linter.unusedSimpArgs false
set_option linter.unusedVariables false
set_option maxRecDepth 100000
open Go Go.RowKit Lb

set_option maxHeartbeats 8000000 in
theorem report_Line (tks : List Tk) (taps : List Tp) (vs : List Int) (s0 s1 s2 : Value) (id : Int) (w : World) (HT : TabE w) (hr0 : RdL 6 tkc w s0 tks) (hr1 : RdL 5 tpc w s1 taps) (hr2 : RdL 1 inc w s2 vs) :
  Calls Tryd.prog 5 #[.agg #[s0, s1, s2], .int .i64 id] w fun e w' => e = .returned (.tuple #[.string (bs (lineAll ⟨tks, taps, vs⟩ id).1), .int .i64 (lineAll ⟨tks, taps, vs⟩ id).2]) ∧ Ext w w' := by
 have HCK := Lib.hid (fun (w' : World) (h : Ext w w') => ledger_Check tks taps vs s0 s1 s2 w' (hr0.ext h) (hr1.ext h) (hr2.ext h))
 have HF := Lib.hid (fun (w' : World) (h : Ext w w') => ledger_Find tks id s0 w' (hr0.ext h))
 have HLN := Lib.hid (fun (k : Nat) (hk : k < tks.length) (hck : ckLedger ⟨tks, taps, vs⟩ = 0) (p : Nat) (w' : World) (h : Ext w w') (hp0 : w.heap.size ≤ p) (hp : Row w' p #[s0, s1, s2, .string (bs [])]) => writer_line tks taps vs s0 s1 s2 k hk [] p w w' (by simp) HT h hp0 hp hck hr0 hr1 hr2)
 have hres : lineAll ⟨tks, taps, vs⟩ id = if ckLedger ⟨tks, taps, vs⟩ ≠ 0 then ([], ckLedger ⟨tks, taps, vs⟩) else match ticketOf tks id with
  | none => ([], 5)
  | some t => (lineR ⟨tks, taps, vs⟩ t, 0) := rfl
 have hix := ixBy_ticket tks id
 generalize lineAll ⟨tks, taps, vs⟩ id = res at *
 generalize ckLedger ⟨tks, taps, vs⟩ = q at *
 generalize ixBy (fun t => t.id == id) tks = ix at *
 obtain ⟨A0, c0, rfl, -, -⟩ := hr0.form
 obtain ⟨A, c, rfl, -, -⟩ := hr1.form
 obtain ⟨A2, c2, rfl, -, -⟩ := hr2.form
 clear hr0 hr1 hr2 HT
 by_cases hq : q = 0
 ·subst hq
  rw [if_neg (by simp)] at hres
  rcases hix with ⟨rfl, hto⟩ | ⟨k, hk, rfl, hto⟩
  ·rw [hto] at hres
   simp only at hres
   subst hres
   clear hto HLN
   go_enter Tryd.func5, Tryd.ntmps5
   go_wp2_with fail
   (refine (HCK.out _ (by exact extA)).mono ?_; rintro e w1 ⟨rfl, h1⟩; have H1 := Lib.hid h1; have hz1 := h1.size; clear h1; (try simp only [World.size_alloc, size_set, World.heap_drewN, size_drew] at hz1); apply Row.use (w := w1) (g := w.heap.size); (focus (exact rowA)); intro q1_0 f1_0 l1_0 R1_0; (try simp only [lSet] at q1_0 R1_0))
   go_wp2_with fail
   (refine (HF.out _ (by exact extA)).mono ?_; rintro e w2 ⟨rfl, h2⟩; have H2 := Lib.hid h2; have hz2 := h2.size; clear h2; (try simp only [World.size_alloc, size_set, World.heap_drewN, size_drew] at hz2); apply Row.use (w := w2) (g := w.heap.size); (focus (exact rowA)); intro q2_0 f2_0 l2_0 R2_0; (try simp only [lSet] at q2_0 R2_0))
   go_wp2_with fail
   go_ret2
   exact ⟨rfl, (show Ext w _ by exact extA)⟩
  ·rw [hto] at hres
   simp only at hres
   have hkn : ¬ ((k : Int) < 0) := by omega
   have hkd : decide ((k : Int) < 0) = false := by simp
   have HL2 := Lib.hid (fun (p : Nat) (w' : World) (h : Ext w w') (hp0 : w.heap.size ≤ p) (hp : Row w' p #[.slice A0 tks.length c0, .slice A taps.length c, .slice A2 vs.length c2, .string ⟨#[]⟩]) => HLN.out k hk rfl p w' h hp0 hp)
   generalize lineR ⟨tks, taps, vs⟩ tks[k] = r at *
   subst hres
   clear hto HLN
   go_enter Tryd.func5, Tryd.ntmps5
   go_wp2_with fail
   (refine (HCK.out _ (by exact extA)).mono ?_; rintro e w1 ⟨rfl, h1⟩; have H1 := Lib.hid h1; have hz1 := h1.size; clear h1; (try simp only [World.size_alloc, size_set, World.heap_drewN, size_drew] at hz1); apply Row.use (w := w1) (g := w.heap.size); (focus (exact rowA)); intro q1_0 f1_0 l1_0 R1_0; (try simp only [lSet] at q1_0 R1_0))
   go_wp2_with fail
   (refine (HF.out _ (by exact extA)).mono ?_; rintro e w2 ⟨rfl, h2⟩; have H2 := Lib.hid h2; have hz2 := h2.size; clear h2; (try simp only [World.size_alloc, size_set, World.heap_drewN, size_drew] at hz2); apply Row.use (w := w2) (g := w.heap.size); (focus (exact rowA)); intro q2_0 f2_0 l2_0 R2_0; (try simp only [lSet] at q2_0 R2_0))
   go_wp2_with fail
   refine (HL2.out _ _ (by exact extA) (by omega) (by exact rowA)).mono ?_
   rintro e w3 ⟨rfl, h3, hp3⟩
   have H3 := Lib.hid (Ext.fr (show Ext w _ by exact extA) h3 (by rintro q rfl; omega))
   apply Row.use hp3; intro q3 f3 l3 R3
   go_wp2_with fail
   go_ret2
   exact ⟨rfl, H3.out⟩
 ·have hqb2 : (q != 0) = true := by simpa using hq
  rw [if_pos hq] at hres
  subst hres
  clear hq HLN hix
  go_enter Tryd.func5, Tryd.ntmps5
  go_wp2_with fail
  (refine (HCK.out _ (by exact extA)).mono ?_; rintro e w1 ⟨rfl, h1⟩; have H1 := Lib.hid h1; have hz1 := h1.size; clear h1; (try simp only [World.size_alloc, size_set, World.heap_drewN, size_drew] at hz1); apply Row.use (w := w1) (g := w.heap.size); (focus (exact rowA)); intro q1_0 f1_0 l1_0 R1_0; (try simp only [lSet] at q1_0 R1_0))
  go_wp2_with fail
  go_ret2
  exact ⟨rfl, (show Ext w _ by exact extA)⟩
end Go.Proofs.YteojjbhadgkfgaaDoor

/- report.Text. -/
namespace Go.Proofs.YteojjbhadgkfgaaDoor
set_option linter.unusedSimpArgs false
set_option linter.unusedVariables false
set_option maxRecDepth 100000
open Go Go.RowKit Lb

theorem who_in {l : List Vw} (hd : ckViews l = 0) : 0 ≤ (whoV l).1 ∧ (whoV l).1 ≤ 1 := by
 have hR := (rightV_iff l).1 hd
 obtain ⟨x, hx⟩ := top_find hR
 have hwt : whoTop l = x.leader := by unfold whoTop; rw [hx]
 have hxr := (ckView_ok x).1 (hR.2.1 x (List.mem_of_find?_eq_some hx))
 unfold whoV
 split
 ·rw [hwt]; omega
 ·exact ⟨Int.le_refl _, by decide⟩
theorem textAll_ok {s : St} (h : ckSt s = 0) : textAll s = (textR s, 0) := by unfold textAll; rw [if_neg (by simpa using h)]
theorem textAll_no {s : St} (h : ckSt s ≠ 0) : textAll s = ([], ckSt s) := by unfold textAll; rw [if_pos h]
set_option maxHeartbeats 16000000 in
theorem report_Text (s : St) (x : Sv) (w : World) (HT : TabE w) (hr : RdS w x s) :
  Calls Tryd.prog 6 #[.agg (sta s x)] w fun e w' => e = .returned (.tuple #[.string (bs (textAll s).1), .int .i64 (textAll s).2]) ∧ Ext w w' := by
 have KC := Lib.hid (fun (w' : World) (h : Ext w w') => station_Check s x w' (hr.ext h))
 by_cases hck : ckSt s = 0
 case neg =>
  rw [textAll_no hck]
  have hqb : (ckSt s != 0) = true := by simpa using hck
  generalize ckSt s = q at *
  obtain ⟨A0, c0, e0, -, -⟩ := hr.tk.form
  obtain ⟨A1, c1, e1, -, -⟩ := hr.tp.form
  obtain ⟨A2, c2, e2, -, -⟩ := hr.vd.form
  obtain ⟨A3, c3, e3, -, -⟩ := hr.dn.form
  obtain ⟨A4, c4, e4, -, -⟩ := hr.gt.form
  obtain ⟨A5, c5, e5, -, -⟩ := hr.vw.form
  obtain ⟨s0, s1, s2, si, sg, sv⟩ := x
  simp only at e0 e1 e2 e3 e4 e5
  subst e0 e1 e2 e3 e4 e5
  clear hr HT
  unfold sta at KC ⊢
  simp only at KC ⊢
  go_enter Tryd.func6, Tryd.ntmps6
  go_wp2_with fail
  (refine (KC.out _ (by exact extA)).mono ?_; rintro e w1 ⟨rfl, h1⟩; have H1 := Lib.hid h1; have hz1 := h1.size; clear h1; (try simp only [World.size_alloc, size_set, World.heap_drewN, size_drew] at hz1); apply Row.use (w := w1) (g := w.heap.size); (focus (exact rowA)); intro q1_0 f1_0 l1_0 R1_0; (try simp only [lSet] at q1_0 R1_0))
  go_wp2_with fail
  go_ret2
  exact ⟨rfl, (show Ext w _ by exact extA)⟩
 rw [textAll_ok hck]
 obtain ⟨hL, hD, hg3, hG, hV⟩ := ckSt_ok.1 hck
 have KW := Lib.hid (fun (w' : World) (h : Ext w w') => lead_Who s.views x.sv w' (hr.vw.ext h) hV)
 have KL := Lib.hid (fun (k : Nat) (hk : k < s.ledger.tickets.length) (acc : List UInt8) (hacc : acc.length ≤ 100000000) (p : Nat) (w' : World) (h : Ext w w') (hp0 : w.heap.size ≤ p) (hp : Row w' p #[x.s0, x.s1, x.s2, .string (bs acc)]) => writer_line s.ledger.tickets s.ledger.taps s.ledger.verdicts x.s0 x.s1 x.s2 k hk acc p w w' hacc HT h hp0 hp hL hr.tk hr.tp hr.vd)
 have KN := Lib.hid (fun (id : Int) (w' : World) (h : Ext w w') => any_has s.denied.ids id ▸ slices_Contains_int s.denied.ids id x.si w' (hr.dn.ext h))
 have KI := Lib.hid (fun (n : Nat) (h : n < 9223372036854775808) (w' : World) (hw : Ext w w') => itoa_c n h w' (HT w' hw))
 have hwi := who_in hV
 have HLE := Lib.hid (fun (k : Nat) (hk : k ≤ s.ledger.tickets.length) => textTo_len hL hwi.2 k hk)
 have h12 := (right_iff.1 hL).1
 have HTK := Lib.hid hr.tk
 have HSU := Lib.hid (fun (k : Nat) (hk : k < s.ledger.tickets.length) => textTo_succ s hk)
 have HLR := Lib.hid (fun (k : Nat) (hk : k < s.ledger.tickets.length) => lineR_len hL (List.getElem_mem hk))
 have h0 : textTo s 0 = leadR (whoV s.views) := rfl
 have hll := leadR_len hwi.2
 rw [hck] at KC
 obtain ⟨A0, c0, e0, -, -⟩ := hr.tk.form
 obtain ⟨A1, c1, e1, -, -⟩ := hr.tp.form
 obtain ⟨A2, c2, e2, -, -⟩ := hr.vd.form
 obtain ⟨A3, c3, e3, -, -⟩ := hr.dn.form
 obtain ⟨A4, c4, e4, -, -⟩ := hr.gt.form
 obtain ⟨A5, c5, e5, -, -⟩ := hr.vw.form
 obtain ⟨s0, s1, s2, si, sg, sv⟩ := x
 simp only at e0 e1 e2 e3 e4 e5
 subst e0 e1 e2 e3 e4 e5
 clear hr HT hck hL hD hg3 hG hV
 unfold sta at KC ⊢
 simp only at KC KL KN KW HTK ⊢
 have H0 := Lib.hid h0
 clear h0
 generalize whoV s.views = r at *
 obtain ⟨r1, r2⟩ := r
 simp only at KW hwi
 obtain ⟨n, rfl⟩ : ∃ n : Nat, r1 = n := ⟨r1.toNat, by omega⟩
 go_enter Tryd.func6, Tryd.ntmps6
 go_wp2_with fail
 (refine (KC.out _ (by exact extA)).mono ?_; rintro e w1 ⟨rfl, h1⟩; have H1 := Lib.hid h1; have hz1 := h1.size; clear h1; (try simp only [World.size_alloc, size_set, World.heap_drewN, size_drew] at hz1); apply Row.use (w := w1) (g := w.heap.size); (focus (exact rowA)); intro q1_0 f1_0 l1_0 R1_0; (try simp only [lSet] at q1_0 R1_0))
 go_wp2_with fail
 (refine (KW.out _ (by exact extA)).mono ?_; rintro e w2 ⟨rfl, h2⟩; have H2 := Lib.hid h2; have hz2 := h2.size; clear h2; (try simp only [World.size_alloc, size_set, World.heap_drewN, size_drew] at hz2); apply Row.use (w := w2) (g := w.heap.size); (focus (exact rowA)); intro q2_0 f2_0 l2_0 R2_0; (try simp only [lSet] at q2_0 R2_0); apply Row.use (w := w2) (g := w1.heap.size); (focus (exact rowA)); intro q2_1 f2_1 l2_1 R2_1; (try simp only [lSet] at q2_1 R2_1))
 go_upto_if 26 with fail
 go_cut [6] (fun s6 wx => s6 = .string (bs (if r2 = true then decI n else [45])) ∧ Aside (Ext w2 wx))
 case first =>
  cases r2
  ·go_wp2_with fail
   go_meet
   case rel => exact ⟨rfl, (show Ext w2 _ by exact extA)⟩
  ·go_wp2_with fail
   (refine (KI.out n (by omega) _ (by exact extA)).mono ?_; rintro e w3 ⟨rfl, h3⟩; have H3 := Lib.hid h3; have hz3 := h3.size; clear h3; (try simp only [World.size_alloc, size_set, World.heap_drewN, size_drew] at hz3))
   go_wp2_with fail
   go_meet
   case rel => exact ⟨by rw [if_pos trivial, decI_nat], (show Ext w2 _ by exact extA)⟩
 case rest =>
  obtain ⟨rfl, HX⟩ := hcut
  obtain ⟨p, hpe⟩ : ∃ p, p = w1.heap.size := ⟨_, rfl⟩
  have HC := Lib.hid HX.out
  have hzc := HX.out.size
  rw [← hpe] at R2_1 l2_1 q2_1 f2_1 ⊢
  have hpw : w.heap.size < p := by omega
  clear hpe
  clear HX KI KC KW q1_0 f1_0 l1_0 R1_0
  have hL0 : leadR ((n : Int), r2) = [[108, 101, 97, 100, 101, 114, 32], (if r2 = true then decI n else [45]), [10]].flatten := by
   unfold leadR
   simp
  rw [hL0] at hll H0
  clear hL0
  generalize (if r2 = true then decI (n : Int) else [45]) = V at *
  (apply Row.use (w := wc) (g := w.heap.size); (focus (exact rowA)); intro qc_0 fc_0 lc_0 Rc_0; (try simp only [lSet] at qc_0 Rc_0); apply Row.use (w := wc) (g := p); (focus (exact rowA)); intro qc_1 fc_1 lc_1 Rc_1; (try simp only [lSet] at qc_1 Rc_1))
  clear q2_0 f2_0 l2_0 q2_1 f2_1 l2_1
  go_wp2_with fail
  refine (writer_put [[108, 101, 97, 100, 101, 114, 32], V, [10]] [] _ _ _ p _ _ (by simp) (by simp only [List.length_nil]; omega) (by omega) (show Row _ p #[.slice A0 s.ledger.tickets.length c0, .slice A1 s.ledger.taps.length c1, .slice A2 s.ledger.verdicts.length c2, .string ⟨#[]⟩] from by exact rowA) (Row.newAt rfl)).mono ?_
  rintro e w4 ⟨rfl, h4, hp4⟩
  have hX : Ext wc (wc.alloc (.cells (strs [[108, 101, 97, 100, 101, 114, 32], V, [10]]) 9)) := by exact extA
  have HE4 := Lib.hid (And.intro trivial (Ext.fr ((show Ext w wc by exact extA).trans hX) h4 (by rintro q rfl; omega)))
  have HS4 := Lib.hid (h4.row (g := w.heap.size) (cs := #[.slice A0 s.ledger.tickets.length c0, .slice A1 s.ledger.taps.length c1, .slice A2 s.ledger.verdicts.length c2, .int .i64 s.denied.version, .slice A3 s.denied.ids.length c3, .slice A4 s.gates.length c4, .slice A5 s.views.length c5]) (by omega) (by exact rowA))
  rw [List.nil_append, ← H0.out] at hp4
  have HP4 := Lib.hid hp4
  clear h4 hp4 hX hll H0 qc_0 fc_0 lc_0 Rc_0 qc_1 fc_1 lc_1 Rc_1 R2_0 R2_1 H1 H2 HC
  apply Row.use HP4.out; intro q4 f4 l4 R4
  apply Row.use HS4.out; intro q5 f5 l5 R5
  go_wp2_with fail
  go_loopg [9, 10, 37] s.ledger.tickets.length (fun gg _ _ s37 wr => ∃ k : Nat, k ≤ s.ledger.tickets.length ∧ s.ledger.tickets.length - k ≤ gg ∧ s37 = .int .i64 k ∧ Aside (Ext w wr ∧ Row wr p #[.slice A0 s.ledger.tickets.length c0, .slice A1 s.ledger.taps.length c1, .slice A2 s.ledger.verdicts.length c2, .string (bs (textTo s k))] ∧ Row wr w.heap.size #[.slice A0 s.ledger.tickets.length c0, .slice A1 s.ledger.taps.length c1, .slice A2 s.ledger.verdicts.length c2, .int .i64 s.denied.version, .slice A3 s.denied.ids.length c3, .slice A4 s.gates.length c4, .slice A5 s.views.length c5]))
  case atStart => exact ⟨0, by omega, by omega, rfl, HE4.out.2, R4.out, R5.out⟩
  case round =>
   obtain ⟨k, hk, hgg, rfl, HV⟩ := hrel
   obtain ⟨v1, v2, v3⟩ := HV.out
   have HE := Lib.hid (And.intro trivial v1)
   have HP := Lib.hid v2
   have HB := Lib.hid v3
   clear HV v1 v2 v3 q4 f4 l4 R4 q5 f5 l5 R5 HE4 HS4 HP4
   apply Row.use HP.out; intro q6 f6 l6 R6
   apply Row.use HB.out; intro q7 f7 l7 R7
   by_cases hlt : k < s.ledger.tickets.length
   ·have hlt' : (k : Int) < (s.ledger.tickets.length : Int) := by omega
    obtain ⟨tb, tof, rfl, htb, g0, g1, g2, g3, g4, g5⟩ := (HTK.out.ext HE.out.2).tk_at rfl hlt
    have hsu := HSU.out k hlt
    have hle := HLE.out k hk
    have hlr := HLR.out k hlt
    have KL2 := Lib.hid (KL.out k hlt)
    have hml := markR_len s.denied.ids s.ledger.tickets[k].id
    have KN2 := Lib.hid (KN.out s.ledger.tickets[k].id)
    have hmk : markR s.denied.ids s.ledger.tickets[k].id = if s.denied.ids.contains s.ledger.tickets[k].id = true then [33] else [] := rfl
    generalize lineR s.ledger s.ledger.tickets[k] = Li at *
    generalize s.ledger.tickets[k] = t at *
    obtain ⟨t0, t1, t2, t3, t4, t5⟩ := t
    simp only at g0 g1 g2 g3 g4 g5 KN2 hmk hml hsu
    have HSU2 := Lib.hid hsu
    clear hsu
    go_wp2_with fail
    refine (KL2.out (textTo s k) (by omega) p _ (HE.out.2.trans (by exact extA)) (by omega) (by exact rowA)).mono ?_
    rintro e w5 ⟨rfl, h5, hp5⟩
    have HE5 := Lib.hid (And.intro trivial (Ext.fr (HE.out.2.trans (show Ext wr _ by exact extA)) h5 (by rintro q rfl; omega)))
    have HS5 := Lib.hid (h5.row (g := w.heap.size) (cs := #[.slice (some ⟨tb, tof, none⟩) s.ledger.tickets.length c0, .slice A1 s.ledger.taps.length c1, .slice A2 s.ledger.verdicts.length c2, .int .i64 s.denied.version, .slice A3 s.denied.ids.length c3, .slice A4 s.gates.length c4, .slice A5 s.views.length c5]) (by omega) (by exact rowA))
    have HB5 := Lib.hid (h5.row (g := wr.heap.size) (cs := #[.int .i64 t0, .int .i64 t1, .int .i64 t2, .int .i64 t3, .int .i64 t4, .int .i64 t5]) (by omega) (by exact rowA))
    have HP5 := Lib.hid hp5
    have hz5 := h5.size
    (try simp only [World.size_alloc, size_set, World.heap_drewN, size_drew] at hz5)
    clear h5 hp5 q6 f6 l6 R6 q7 f7 l7 R7 g0 g1 g2 g3 g4 g5 KL2 HP HB
    apply Row.use HP5.out; intro qa5 fa5 la5 Ra5
    apply Row.use HS5.out; intro qb5 fb5 lb5 Rb5
    apply Row.use HB5.out; intro qc5 fc5 lc5 Rc5
    go_wp2_with fail
    refine (KN2.out _ HE5.out.2).mono ?_
    rintro e w6 ⟨rfl, rfl⟩
    generalize s.denied.ids.contains t0 = z at *
    have hk12 : k ≤ 12 := by omega
    cases z
    ·have HSU3 := Lib.hid (show textTo s (k + 1) = (textTo s k ++ Li) ++ [[10]].flatten by rw [HSU2.out, hmk]; rfl)
     clear hmk HSU2
     go_wp2_with fail
     refine (writer_put [[10]] (textTo s k ++ Li) _ _ _ p _ _ (by simp) (by rw [List.length_append]; simp only [List.flatten_cons, List.flatten_nil, List.append_nil, List.length_cons, List.length_nil]; omega) (by omega) (by exact rowA) (Row.newAt rfl)).mono ?_
     rintro e w7 ⟨rfl, h7, hp7⟩
     have hX7 : Ext w5 (w5.alloc (.cells (strs [[10]]) 9)) := by exact extA
     have HE7 := Lib.hid (And.intro trivial (Ext.fr (HE5.out.2.trans hX7) h7 (by rintro q rfl; omega)))
     have HS7 := Lib.hid (h7.row (g := w.heap.size) (cs := #[.slice (some ⟨tb, tof, none⟩) s.ledger.tickets.length c0, .slice A1 s.ledger.taps.length c1, .slice A2 s.ledger.verdicts.length c2, .int .i64 s.denied.version, .slice A3 s.denied.ids.length c3, .slice A4 s.gates.length c4, .slice A5 s.views.length c5]) (by omega) (by exact rowA))
     have HP7 := Lib.hid hp7
     have hz7 := h7.size
     (try simp only [World.size_alloc, size_set, World.heap_drewN, size_drew] at hz7)
     clear h7 hp7 hX7
     apply Row.use HP7.out; intro qa7 fa7 la7 Ra7
     apply Row.use HS7.out; intro qb7 fb7 lb7 Rb7
     clear qa5 fa5 la5 Ra5 qb5 fb5 lb5 Rb5 qc5 fc5 lc5 Rc5 HP5 HS5 HB5
     go_wp2_with fail
     go_roundg (s.ledger.tickets.length - (k + 1))
     case measure => omega
     case rel => exact ⟨k + 1, by omega, by omega, by go_num, HE7.out.2, by rw [HSU3.out]; exact HP7.out, HS7.out⟩
    ·have HSU3 := Lib.hid (show textTo s (k + 1) = ((textTo s k ++ Li) ++ [[33]].flatten) ++ [[10]].flatten by rw [HSU2.out, hmk, if_pos rfl, ← List.append_assoc]; rfl)
     clear hmk HSU2
     go_wp2_with fail
     refine (writer_put [[33]] (textTo s k ++ Li) _ _ _ p _ _ (by simp) (by rw [List.length_append]; simp only [List.flatten_cons, List.flatten_nil, List.append_nil, List.length_cons, List.length_nil]; omega) (by omega) (by exact rowA) (Row.newAt rfl)).mono ?_
     rintro e w7 ⟨rfl, h7, hp7⟩
     have hX7 : Ext w5 (w5.alloc (.cells (strs [[33]]) 9)) := by exact extA
     have HE7 := Lib.hid (And.intro trivial (Ext.fr (HE5.out.2.trans hX7) h7 (by rintro q rfl; omega)))
     have HS7 := Lib.hid (h7.row (g := w.heap.size) (cs := #[.slice (some ⟨tb, tof, none⟩) s.ledger.tickets.length c0, .slice A1 s.ledger.taps.length c1, .slice A2 s.ledger.verdicts.length c2, .int .i64 s.denied.version, .slice A3 s.denied.ids.length c3, .slice A4 s.gates.length c4, .slice A5 s.views.length c5]) (by omega) (by exact rowA))
     have HP7 := Lib.hid hp7
     have hz7 := h7.size
     (try simp only [World.size_alloc, size_set, World.heap_drewN, size_drew] at hz7)
     clear h7 hp7 hX7
     apply Row.use HP7.out; intro qa7 fa7 la7 Ra7
     apply Row.use HS7.out; intro qb7 fb7 lb7 Rb7
     clear qa5 fa5 la5 Ra5 qb5 fb5 lb5 Rb5 qc5 fc5 lc5 Rc5 HP5 HS5 HB5
     go_wp2_with fail
     refine (writer_put [[10]] ((textTo s k ++ Li) ++ [[33]].flatten) _ _ _ p _ _ (by simp) (by rw [List.length_append, List.length_append]; simp only [List.flatten_cons, List.flatten_nil, List.append_nil, List.length_cons, List.length_nil]; omega) (by omega) (by exact rowA) (Row.newAt rfl)).mono ?_
     rintro e w8 ⟨rfl, h8, hp8⟩
     have hX8 : Ext w7 (w7.alloc (.cells (strs [[10]]) 9)) := by exact extA
     have HE8 := Lib.hid (And.intro trivial (Ext.fr (HE7.out.2.trans hX8) h8 (by rintro q rfl; omega)))
     have HS8 := Lib.hid (h8.row (g := w.heap.size) (cs := #[.slice (some ⟨tb, tof, none⟩) s.ledger.tickets.length c0, .slice A1 s.ledger.taps.length c1, .slice A2 s.ledger.verdicts.length c2, .int .i64 s.denied.version, .slice A3 s.denied.ids.length c3, .slice A4 s.gates.length c4, .slice A5 s.views.length c5]) (by omega) (by exact rowA))
     have HP8 := Lib.hid hp8
     have hz8 := h8.size
     (try simp only [World.size_alloc, size_set, World.heap_drewN, size_drew] at hz8)
     clear h8 hp8 hX8
     apply Row.use HP8.out; intro qa8 fa8 la8 Ra8
     apply Row.use HS8.out; intro qb8 fb8 lb8 Rb8
     clear qa7 fa7 la7 Ra7 qb7 fb7 lb7 Rb7 HP7 HS7
     go_wp2_with fail
     go_roundg (s.ledger.tickets.length - (k + 1))
     case measure => omega
     case rel => exact ⟨k + 1, by omega, by omega, by go_num, HE8.out.2, by rw [HSU3.out]; exact HP8.out, HS8.out⟩
   ·have hge : ¬ (k : Int) < (s.ledger.tickets.length : Int) := by omega
    have HK2 := Lib.hid (show k = s.ledger.tickets.length by omega)
    go_wp2_with fail
    go_ret2
    refine ⟨?_, HE.out.2⟩
    rw [HK2.out]
    rfl
end Go.Proofs.YteojjbhadgkfgaaDoor
