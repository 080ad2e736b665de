/- denied.Own, HasInt, SameInts, SameDenied, NewerOf. -/
import Derived.Test.YthollackhkiofaaDnB
import Derived.Test.YthollackhkiofaaCnIt
import Derived.Deep.RegionHeld3
namespace Go.Proofs.Ythollackhkiofaa
set_option linter.unusedSimpArgs false
set_option linter.unusedVariables false
set_option maxRecDepth 100000
open Go Go.RowKit Lb

set_option maxHeartbeats 4000000 in
theorem denied_Own (d : Dn) (s : Value) (w : World) (hr : RdL 1 inc w s d.ids) (hb : d.ids.length * 8 ≤ 140737488355328) :
    Calls Try.prog 77 #[.agg #[.int .i64 d.version, s]] w fun e w' => ∃ s', e = .returned (.agg #[.int .i64 d.version, s']) ∧ Ext w w' ∧ OwnL 3 1 inc w.heap.size w' s' d.ids := by
  obtain ⟨ver, l⟩ := d
  simp only at hr hb ⊢
  have HC := Lib.hid (fun (w' : World) (h : Ext w w') => Clone_it l s w' (hr.ext h) hb)
  have hsf : ∃ A c, s = .slice A l.length c := by obtain ⟨A, c, h, -, -⟩ := hr.form; exact ⟨A, c, h⟩
  clear hr hb
  obtain ⟨A, c, rfl⟩ := hsf
  go_enter Try.func77, Try.ntmps77
  go_wp2_with fail
  go_region_with (go_at_call 84; refine (HC.out _ (by repeat (first | (with_reducible exact Ext.refl _) | (with_reducible refine Ext.alloc ?_ _) | (with_reducible apply Ext.setC; focus (simp <;> omega)) | (with_reducible refine Ext.drew ?_) | (with_reducible refine Ext.drewN ?_ _) | (with_reducible refine Ext.trans ?_ (Hid.out ‹Hid (Ext _ _)›))))).mono ?_; rintro e w1 ⟨v', rfl, h1, ho⟩; obtain ⟨A', c', rfl⟩ := ho.form; have hz1 := h1.size; have H1 := Lib.hid h1; have HO := Lib.hid ho; clear h1 ho; (try simp only [World.size_alloc, size_set, World.heap_drewN, size_drew] at hz1); (apply Row.use (w := w1) (g := w.heap.size); (focus (repeat (first | (with_reducible exact Hid.out ‹Hid (Row _ _ _)›) | (with_reducible exact Row.newAt rfl) | (with_reducible apply Row.newAt; (simp; done)) | (with_reducible apply Row.set_) | (with_reducible apply Row.far; focus (simp <;> omega)) | (with_reducible apply Row.alloc) | (with_reducible apply Row.drew) | (with_reducible apply Row.drewN) | (with_reducible apply Row.ext (Hid.out ‹Hid (Ext _ _)›))))); intro q1_0 f1_0 l1_0 R1_0; (try simp only [List.setIfInBounds_toArray, List.set_cons_zero, List.set_cons_succ] at q1_0 R1_0); apply Row.use (w := w1) (g := w.heap.size + 1); (focus (repeat (first | (with_reducible exact Hid.out ‹Hid (Row _ _ _)›) | (with_reducible exact Row.newAt rfl) | (with_reducible apply Row.newAt; (simp; done)) | (with_reducible apply Row.set_) | (with_reducible apply Row.far; focus (simp <;> omega)) | (with_reducible apply Row.alloc) | (with_reducible apply Row.drew) | (with_reducible apply Row.drewN) | (with_reducible apply Row.ext (Hid.out ‹Hid (Ext _ _)›))))); intro q1_1 f1_1 l1_1 R1_1; (try simp only [List.setIfInBounds_toArray, List.set_cons_zero, List.set_cons_succ] at q1_1 R1_1)))
  all_goals
    have ho := HO.out
    simp only [World.size_alloc, size_set, World.heap_drewN, size_drew] at ho
    go_wp2_with fail
    refine bodyPost_ret (v := .agg #[.int .i64 ver, .slice A' l.length c']) (by simp [results, Try.results77, go_sem, *]) rfl ⟨_, rfl, ?_, ?_⟩
    · repeat (first | (with_reducible exact Ext.refl _) | (with_reducible refine Ext.alloc ?_ _) | (with_reducible apply Ext.setC; focus (simp <;> omega)) | (with_reducible refine Ext.drew ?_) | (with_reducible refine Ext.drewN ?_ _) | (with_reducible refine Ext.trans ?_ (Hid.out ‹Hid (Ext _ _)›)))
    · (refine OwnL.lower (base := w.heap.size + 1 + 1) ?_ (by omega); repeat (first | (with_reducible assumption) | (with_reducible exact Hid.out ‹Hid (OwnL _ _ _ _ _ _ _)›) | (with_reducible apply OwnL.setC; focus (simp <;> omega)) | (with_reducible refine OwnL.put ?_ (by assumption) _) | (with_reducible apply OwnL.alloc) | (with_reducible apply OwnL.drew) | (with_reducible apply OwnL.drewN) | (with_reducible refine OwnL.ext ?_ (Hid.out ‹Hid (Ext _ _)›))))

set_option maxHeartbeats 1000000 in
theorem ref_HasInt (l : List Int) (n : Int) (v : Value) (w : World) (hr : RdL 1 inc w v l) :
    Calls Try.prog 33 #[v, .int .i64 n] w fun e w' => e = .returned (.bool (l.contains n)) ∧ w = w' := by
  obtain ⟨A, c, rfl, hmc, hmm⟩ := hr.form
  have hm : l.length ≤ 9223372036854775807 := by unfold maxLen at hmm; omega
  have HRd := Lib.hid hr
  generalize hR : l.contains n = r
  have HR := Lib.hid hR
  clear hr hmm hmc hR
  go_enter Try.func33, Try.ntmps33
  go_wp2_with fail
  go_loopg [4, 5] l.length (fun gg _ s5 wr => ∃ k : Nat, k ≤ l.length ∧ l.length - k ≤ gg ∧ s5 = .int .i64 k ∧ wr = w ∧ Aside ((l.drop k).contains n = r))
  case atStart => exact ⟨0, by omega, by omega, rfl, rfl, HR.out⟩
  case round =>
    obtain ⟨k, hk, hg, rfl, rfl, HA⟩ := hrel
    by_cases hlt : k < l.length
    · have hlt' : (k : Int) < (l.length : Int) := by omega
      obtain ⟨b, o, rfl, hb, hcell⟩ := HRd.out.int_at rfl hlt
      have hA := HA.out
      rw [List.drop_eq_getElem_cons hlt, List.contains_cons] at hA
      generalize l[k] = x at *
      by_cases hx : x = n
      · have hxb : (x == n) = true := by simpa using hx
        have hA2 : r = true := by rw [← hA]; simp [hx]
        have HA2 := Lib.hid hA2
        clear hA hA2 HA hx
        go_wp2_with fail
        go_ret
        exact ⟨ret_bool (by rw [HA2.out]), rfl⟩
      · have hxb : (x == n) = false := by simpa using hx
        have hA2 : (l.drop (k + 1)).contains n = r := by rw [← hA]; simp [Ne.symm hx]
        have HA2 := Lib.hid hA2
        clear hA hA2 HA hx
        go_wp2_with fail
        go_roundg (l.length - (k + 1))
        case measure => omega
        case rel => exact ⟨k + 1, by omega, by omega, by go_num, rfl, HA2.out⟩
    · have hkl : k = l.length := by omega
      have hge : ¬ (k : Int) < (l.length : Int) := by omega
      have hA := HA.out
      rw [hkl, List.drop_length] at hA
      have HA2 := Lib.hid hA
      clear hA HA hkl
      go_wp2_with fail
      go_ret
      exact ⟨ret_bool (by rw [← HA2.out]; rfl), rfl⟩

set_option maxHeartbeats 1000000 in
theorem ref_SameInts (l m : List Int) (v u : Value) (w : World) (hr : RdL 1 inc w v l) (hs : RdL 1 inc w u m) :
    Calls Try.prog 59 #[v, u] w fun e w' => e = .returned (.bool (l == m)) ∧ Ext w w' := by
  obtain ⟨A, c, rfl, hmc, hmm⟩ := hr.form
  obtain ⟨A2, c2, rfl, -, -⟩ := hs.form
  have hm : l.length ≤ 9223372036854775807 := by unfold maxLen at hmm; omega
  have HRd := Lib.hid hr
  have HSd := Lib.hid hs
  clear hr hmm hmc hs
  by_cases hl : l.length = m.length
  · rw [← hl] at HSd ⊢
    have HL := Lib.hid hl
    generalize hR : (l == m) = r
    have HR := Lib.hid hR
    clear hR hl
    go_enter Try.func59, Try.ntmps59
    go_wp2_with fail
    go_loopg [4, 5] l.length (fun gg _ s5 wr => ∃ k : Nat, k ≤ l.length ∧ l.length - k ≤ gg ∧ s5 = .int .i64 k ∧ Aside (Ext w wr) ∧ Aside ((l.drop k == m.drop k) = r))
    case atStart => exact ⟨0, by omega, by omega, rfl, Ext.refl _, HR.out⟩
    case round =>
      obtain ⟨k, hk, hg, rfl, HE, HA⟩ := hrel
      by_cases hlt : k < l.length
      · have hlt' : (k : Int) < (l.length : Int) := by omega
        have hltm : k < m.length := by have := HL.out; omega
        obtain ⟨b, o, rfl, hb, hcell⟩ := (HRd.out.ext HE.out).int_at rfl hlt
        obtain ⟨b2, o2, rfl, hb2, hcell2⟩ := (HSd.out.ext HE.out).int_at rfl hltm
        have hA := HA.out
        rw [List.drop_eq_getElem_cons hlt, List.drop_eq_getElem_cons hltm, List.cons_beq_cons] at hA
        generalize l[k] = x at *
        generalize m[k] = y at *
        by_cases hx : x = y
        · have hxb : (x != y) = false := by simpa using hx
          have hA2 : (l.drop (k + 1) == m.drop (k + 1)) = r := by rw [← hA]; simp [hx]
          have HA2 := Lib.hid hA2
          clear hA hA2 HA hx
          go_wp2_with fail
          go_quiet (fail)
          go_wp2_with fail
          go_roundg (l.length - (k + 1))
          case measure => omega
          case rel => exact ⟨k + 1, by omega, by omega, by go_num, HE.out.drewN _, HA2.out⟩
        · have hxb : (x != y) = true := by simpa using hx
          have hA2 : r = false := by rw [← hA]; simp [hx]
          have HA2 := Lib.hid hA2
          clear hA hA2 HA hx
          go_wp2_with fail
          go_quiet (fail)
          go_wp2_with fail
          go_ret
          exact ⟨ret_bool (by rw [HA2.out]), HE.out.drewN _⟩
      · have hkl : k = l.length := by omega
        have hge : ¬ (k : Int) < (l.length : Int) := by omega
        have hA := HA.out
        rw [hkl, List.drop_length, HL.out, List.drop_length] at hA
        have HA2 := Lib.hid hA
        clear hA HA hkl
        go_wp2_with fail
        go_ret
        exact ⟨ret_bool (by rw [← HA2.out]; rfl), HE.out⟩
  · have hl1 : ((l.length : Int) != (m.length : Int)) = true := by
      have : (l.length : Int) ≠ (m.length : Int) := by omega
      simpa using this
    have hl2 : (l == m) = false := by
      rw [beq_eq_false_iff_ne]
      rintro rfl
      exact hl rfl
    rw [hl2]
    clear hl HRd HSd
    go_enter Try.func59, Try.ntmps59
    go_wp2_with fail
    go_ret
    exact ⟨ret_bool rfl, Ext.refl _⟩
end Go.Proofs.Ythollackhkiofaa
