/- The references' DenyOf. -/
import Derived.Test.YthollackhkiofaaDnH
import Derived.Test.YthollackhkiofaaApp
namespace Go.Proofs.Ythollackhkiofaa
set_option linter.unusedSimpArgs false
set_option linter.unusedVariables false
set_option maxRecDepth 100000
open Go Go.RowKit Lb

set_option maxHeartbeats 8000000 in
set_option maxRecDepth 100000 in
theorem ref_DenyOf (d : Dn) (s : Value) (id : Int) (w : World) (hr : RdL 1 inc w s d.ids) (hd : ckDn d = 0) :
    Calls Try.prog 28 #[.agg #[.int .i64 d.version, s], .int .i64 id] w fun e w' => ∃ s', e = .returned (.tuple #[.agg #[.int .i64 (denyD d id).1.version, s'], .int .i64 (denyD d id).2]) ∧ Ext w w' ∧ OwnL 3 1 inc w.heap.size w' s' (denyD d id).1.ids := by
  obtain ⟨g1, g2, g3, g4, g5⟩ := (ckDn_ok d).1 hd
  obtain ⟨ver, l⟩ := d
  simp only at *
  obtain ⟨A, c, rfl, -, -⟩ := hr.form
  have HW := Lib.hid (fun w => ref_between id 1 9999 w)
  have HH := Lib.hid (fun (w' : World) (h : Ext w w') => ref_HasInt l id _ w' (hr.ext h))
  have hm : l.length ≤ 9223372036854775807 := by omega
  have hv0 : 0 ≤ ver ∧ ver ≤ 999 := by simp [within] at g1; exact g1
  have HR := Lib.hid hr
  clear hr hd g3 g1
  cases hid : within id 1 9999 with
  | false =>
    have hres : denyD ⟨ver, l⟩ id = (dn0, 3) := by unfold denyD; rw [if_pos hid]
    rw [hres]
    rw [hid] at HW
    clear hid hres g4
    go_enter Try.func28, Try.ntmps28
    go_wp2_with (go_at_call 50; refine (HW.out _).mono ?_; rintro e w' ⟨rfl, rfl⟩)
    refine bodyPost_ret (v := .tuple #[.agg #[.int .i64 0, .slice none 0 0], .int .i64 3]) (by simp [results, Try.results28, go_sem, *]) rfl ⟨_, rfl, ?_, OwnL.nil⟩
    repeat (first | (with_reducible exact Ext.refl _) | (with_reducible refine Ext.alloc ?_ _) | (with_reducible apply Ext.setC; focus (simp <;> omega)) | (with_reducible refine Ext.drew ?_) | (with_reducible refine Ext.drewN ?_ _) | (with_reducible refine Ext.trans ?_ (Hid.out ‹Hid (Ext _ _)›)))
  | true =>
    rw [hid] at HW
    have hres := denyD_eq (d := ⟨ver, l⟩) hid
    simp only at hres
    clear hid
    cases hc : l.contains id with
    | true =>
      rw [hc] at HH
      rw [hres, if_pos hc]
      clear hres hc g4
      go_enter Try.func28, Try.ntmps28
      go_wp2_with (first | (go_at_call 50; refine (HW.out _).mono ?_; rintro e w' ⟨rfl, rfl⟩) | (go_at_call 33; refine (HH.out _ (by repeat (first | (with_reducible exact Ext.refl _) | (with_reducible refine Ext.alloc ?_ _) | (with_reducible apply Ext.setC; focus (simp <;> omega)) | (with_reducible refine Ext.drew ?_) | (with_reducible refine Ext.drewN ?_ _) | (with_reducible refine Ext.trans ?_ (Hid.out ‹Hid (Ext _ _)›))))).mono ?_; rintro e w' ⟨rfl, rfl⟩))
      refine bodyPost_ret (v := .tuple #[.agg #[.int .i64 0, .slice none 0 0], .int .i64 6]) (by simp [results, Try.results28, go_sem, *]) rfl ⟨_, rfl, ?_, OwnL.nil⟩
      repeat (first | (with_reducible exact Ext.refl _) | (with_reducible refine Ext.alloc ?_ _) | (with_reducible apply Ext.setC; focus (simp <;> omega)) | (with_reducible refine Ext.drew ?_) | (with_reducible refine Ext.drewN ?_ _) | (with_reducible refine Ext.trans ?_ (Hid.out ‹Hid (Ext _ _)›)))
    | false =>
      rw [hc] at HH
      have hcn : ¬ l.contains id = true := by rw [hc]; decide
      rw [if_neg hcn] at hres
      by_cases h12 : l.length = 12 ∨ ver = 999
      · rw [hres, if_pos h12]
        have hbb : ((l.length : Int) == 12) = true ∨ ((l.length : Int) == 12) = false ∧ (ver == 999) = true := by
          by_cases h : l.length = 12
          · left; rw [h]; rfl
          · right
            refine ⟨by rw [beq_eq_false_iff_ne]; omega, ?_⟩
            have : ver = 999 := by omega
            rw [this]; rfl
        clear hres hc g4 hcn h12
        rcases hbb with hb1 | ⟨hb1, hb2⟩
        · go_enter Try.func28, Try.ntmps28
          go_wp2_with (first | (go_at_call 50; refine (HW.out _).mono ?_; rintro e w' ⟨rfl, rfl⟩) | (go_at_call 33; refine (HH.out _ (by repeat (first | (with_reducible exact Ext.refl _) | (with_reducible refine Ext.alloc ?_ _) | (with_reducible apply Ext.setC; focus (simp <;> omega)) | (with_reducible refine Ext.drew ?_) | (with_reducible refine Ext.drewN ?_ _) | (with_reducible refine Ext.trans ?_ (Hid.out ‹Hid (Ext _ _)›))))).mono ?_; rintro e w' ⟨rfl, rfl⟩))
          refine bodyPost_ret (v := .tuple #[.agg #[.int .i64 0, .slice none 0 0], .int .i64 2]) (by simp [results, Try.results28, go_sem, *]) rfl ⟨_, rfl, ?_, OwnL.nil⟩
          repeat (first | (with_reducible exact Ext.refl _) | (with_reducible refine Ext.alloc ?_ _) | (with_reducible apply Ext.setC; focus (simp <;> omega)) | (with_reducible refine Ext.drew ?_) | (with_reducible refine Ext.drewN ?_ _) | (with_reducible refine Ext.trans ?_ (Hid.out ‹Hid (Ext _ _)›)))
        · go_enter Try.func28, Try.ntmps28
          go_wp2_with (first | (go_at_call 50; refine (HW.out _).mono ?_; rintro e w' ⟨rfl, rfl⟩) | (go_at_call 33; refine (HH.out _ (by repeat (first | (with_reducible exact Ext.refl _) | (with_reducible refine Ext.alloc ?_ _) | (with_reducible apply Ext.setC; focus (simp <;> omega)) | (with_reducible refine Ext.drew ?_) | (with_reducible refine Ext.drewN ?_ _) | (with_reducible refine Ext.trans ?_ (Hid.out ‹Hid (Ext _ _)›))))).mono ?_; rintro e w' ⟨rfl, rfl⟩))
          refine bodyPost_ret (v := .tuple #[.agg #[.int .i64 0, .slice none 0 0], .int .i64 2]) (by simp [results, Try.results28, go_sem, *]) rfl ⟨_, rfl, ?_, OwnL.nil⟩
          repeat (first | (with_reducible exact Ext.refl _) | (with_reducible refine Ext.alloc ?_ _) | (with_reducible apply Ext.setC; focus (simp <;> omega)) | (with_reducible refine Ext.drew ?_) | (with_reducible refine Ext.drewN ?_ _) | (with_reducible refine Ext.trans ?_ (Hid.out ‹Hid (Ext _ _)›)))
      · rw [hres, if_neg h12]
        have hb1 : ((l.length : Int) == 12) = false := by rw [beq_eq_false_iff_ne]; omega
        have hb2 : (ver == 999) = false := by rw [beq_eq_false_iff_ne]; omega
        have hnl : id ∉ l := by simpa using hcn
        obtain ⟨i0, hi, hz0, hz1, hz2⟩ := info_parts info_it
        have hlen : (encs inc l).length = l.length * 1 := by rw [encs_inc, List.length_map]; omega
        have HG4 := Lib.hid g4
        have HNL := Lib.hid hnl
        have HLEN := Lib.hid hlen
        have hg12 : l.length < 12 := by omega
        clear hres hc hcn h12 g4 hnl hlen g5 g2
        go_enter Try.func28, Try.ntmps28
        go_wp2_with (first | (go_at_call 50; refine (HW.out _).mono ?_; rintro e w' ⟨rfl, rfl⟩) | (go_at_call 33; refine (HH.out _ (by repeat (first | (with_reducible exact Ext.refl _) | (with_reducible refine Ext.alloc ?_ _) | (with_reducible apply Ext.setC; focus (simp <;> omega)) | (with_reducible refine Ext.drew ?_) | (with_reducible refine Ext.drewN ?_ _) | (with_reducible refine Ext.trans ?_ (Hid.out ‹Hid (Ext _ _)›))))).mono ?_; rintro e w' ⟨rfl, rfl⟩) | (at_builtin; go_loud (refine wpList_append_rd (enc := inc) (k := 1) _ rfl _ _ 41 rfl (w.heap.size + 1 + 1) 3 i0 (.int .i64 0) 8 Try.underlying41 hi hz0 hz1 hz2 rfl (by decide) inc_size _ [] rfl (OwnL.made ?qc7 ?qc6) _ l rfl ?qc1 ?qc2 ?qc3 ?qc4 ?qc5 ?_)))
        case qc1 => exact HR.out.ext (by repeat (first | (with_reducible exact Ext.refl _) | (with_reducible refine Ext.alloc ?_ _) | (with_reducible apply Ext.setC; focus (simp <;> omega)) | (with_reducible refine Ext.drew ?_) | (with_reducible refine Ext.drewN ?_ _) | (with_reducible refine Ext.trans ?_ (Hid.out ‹Hid (Ext _ _)›))))
        case qc2 => exact ints_one l
        case qc3 => unfold maxLen; simp; omega
        case qc4 => simp; omega
        case qc5 => simp only [World.size_alloc]; omega
        case qc6 => simp only [World.size_alloc]; omega
        case qc7 => simp only [World.size_alloc]
        intro v1 w1 ho1 hg1 hn1
        obtain ⟨A1, c1, rfl⟩ := ho1.form
        have HO1 := Lib.hid ho1
        have hE1 : Ext w w1 := Ext.grown (by repeat (first | (with_reducible exact Ext.refl _) | (with_reducible refine Ext.alloc ?_ _) | (with_reducible apply Ext.setC; focus (simp <;> omega)) | (with_reducible refine Ext.drew ?_) | (with_reducible refine Ext.drewN ?_ _) | (with_reducible refine Ext.trans ?_ (Hid.out ‹Hid (Ext _ _)›)))) hg1 (fun k hk => by simp [Value.ownBlock] at hk; omega)
        have hlt1 : w.heap.size + 1 + 1 < w1.heap.size := by
          have := hg1.size
          simp only [World.size_alloc] at this
          omega
        have hr1 : Row w1 (w.heap.size + 1) #[.int .i64 0, .slice none 0 0] := by
          refine Row.grown ?_ hg1 (by simp [Value.ownBlock])
          apply Row.alloc
          exact Row.newAt (by simp)
        have hr0 : Row w1 w.heap.size #[.int .i64 ver, .slice A l.length c] := by
          refine Row.grown ?_ hg1 (by simp [Value.ownBlock]; omega)
          apply Row.alloc
          apply Row.alloc
          exact Row.newAt rfl
        have HE1 := Lib.hid hE1
        have HR1 := Lib.hid hr1
        have HR0 := Lib.hid hr0
        clear hg1 hE1 hr1 hr0 hn1 ho1
        go_wp2_with (at_builtin; refine wpList_append_rd (enc := inc) (k := 1) _ rfl _ _ 41 rfl (w.heap.size + 1 + 1) 3 i0 (.int .i64 0) 8 Try.underlying41 hi hz0 hz1 hz2 rfl (by decide) inc_size _ l rfl (HO1.out.alloc _) _ [id] rfl (RdL.lit id rfl rfl) ?qd2 ?qd3 ?qd4 ?qd5 ?_)
        case qd2 => exact ints_one [id]
        case qd3 => unfold maxLen; simp; omega
        case qd4 => simp; omega
        case qd5 => simp only [World.size_alloc]; omega
        intro v2 w2 ho2 hg2 hn2
        have hform : ∃ g cap, v2 = .slice (some ⟨g, 0, none⟩) (l.length + 1) cap ∧ w.heap.size + 1 + 1 ≤ g ∧ g < w2.heap.size := by
          rcases ho2.2 with ⟨rfl, h0⟩ | ⟨g, cap, cur, rfl, hb, hg, -⟩
          · simp at h0
          · exact ⟨g, cap, by simp, hb, (Array.getElem?_eq_some_iff.1 hg).1⟩
        obtain ⟨g, cap, rfl, hg, hgs⟩ := hform
        have hE2 : Ext w w2 := by
          have : Ext w (w1.alloc (.cells #[.int .i64 id] 3)) := HE1.out.alloc _
          exact this.grown hg2 (fun k hk => by have := (HO1.out.lt k hk).1; omega)
        have hr2 : Row w2 (w.heap.size + 1) #[.int .i64 0, .slice none 0 0] := by
          refine Row.grown HR1.out.alloc hg2 ?_
          intro h
          have := (HO1.out.lt _ h.symm).1
          omega
        have hr20 : Row w2 w.heap.size #[.int .i64 ver, .slice A l.length c] := by
          refine Row.grown HR0.out.alloc hg2 ?_
          intro h
          have := (HO1.out.lt _ h.symm).1
          omega
        have HE2 := Lib.hid hE2
        have HR2 := Lib.hid hr2
        have HR20 := Lib.hid hr20
        have HO2 := Lib.hid ho2
        have hwl : IntKind.i64.wrap ((l.length : Int) + 1 - 1) = (l.length : Int) := by rw [IntWalk.i64_in _ (by omega)]; omega
        have hwl2 : IntKind.i64.wrap (((l.length + 1 : Nat) : Int) - 1) = (l.length : Int) := by rw [IntWalk.i64_in _ (by omega)]; omega
        clear hg2 hn2 ho2 hE2 hr2 hr20
        clear HO1 HE1 HR1 HR0 HH hlt1
        go_wp2_with fail
        go_loopg [7] (l.length + 1) (fun gg s7 wr => ∃ k : Nat, k ≤ l.length ∧ k ≤ gg ∧ s7 = .int .i64 k ∧ Aside (Ext w wr ∧ Row wr (w.heap.size + 1) #[.int .i64 0, .slice none 0 0] ∧ Row wr w.heap.size #[.int .i64 ver, .slice A l.length c]) ∧ Aside (OwnL 3 1 inc (w.heap.size + 1 + 1) wr (.slice (some ⟨g, 0, none⟩) (l.length + 1) cap) (l.take k ++ id :: l.drop k)) ∧ Aside (∀ x ∈ l.drop k, ¬ x < id))
        case atStart => exact ⟨l.length, by omega, by omega, by go_num, ⟨HE2.out, HR2.out, HR20.out⟩, (show OwnL 3 1 inc (w.heap.size + 1 + 1) w2 (.slice (some ⟨g, 0, none⟩) (l.length + 1) cap) (l.take l.length ++ id :: l.drop l.length) by simpa using HO2.out), fun x hx => by simp at hx⟩
        case round =>
          obtain ⟨k, hk, hgk, rfl, HA, HB, HC⟩ := hrel
          have hlt : k < l.length + 1 := by omega
          have hL : (l.take k ++ id :: l.drop k)[k]? = some id := by
            rw [List.getElem?_append_right (by rw [List.length_take]; omega), List.length_take, Nat.min_eq_left hk, Nat.sub_self]
            rfl
          obtain ⟨ck, fk⟩ := HB.out.int_cell k id hL
          have hkl' : (k : Int) < (l.length : Int) + 1 := by omega
          have hkl2 : (k : Int) < ((l.length + 1 : Nat) : Int) := by omega
          have hrr := HA.out.2.1
          have hq := hrr.2.1
          have hfz := hrr.2.2
          have hltr := hrr.1
          have hq0 := HA.out.2.2.2.1
          have HA2 := Lib.hid HA.out
          have HB2 := Lib.hid HB.out
          have HC2 := Lib.hid HC.out
          clear HA HB HC hL hrr
          by_cases hk0 : k = 0
          · subst hk0
            have hfin : insI id l = l.take 0 ++ id :: l.drop 0 := insI_at id l 0 (by simp) HC2.out
            go_wp2_with fail
            go_quiet (fail)
            go_wp2_with fail
            refine bodyPost_ret (v := .tuple #[.agg #[.int .i64 (ver + 1), .slice (some ⟨g, 0, none⟩) (l.length + 1) cap], .int .i64 0]) (by simp [results, Try.results28, go_sem, *]) rfl ⟨_, rfl, ?_, ?_⟩
            · exact (((HA2.out.1.drewN _).setCell (by simp) _).setCell (by simp) _)
            · have ho : OwnL 3 1 inc (w.heap.size + 1 + 1) wr (.slice (some ⟨g, 0, none⟩) (l.length + 1) cap) (insI id l) := by rw [hfin]; exact HB2.out
              exact (((ho.drewN _).set (by simp) _).set (by simp) _).lower (by omega)
          · have hkn : 0 < k := by omega
            have hkd : decide (0 < k) = true := by simpa using hkn
            have hw1 : IntKind.i64.wrap ((k : Int) - 1) = ((k - 1 : Nat) : Int) := by rw [IntWalk.i64_in _ (by omega)]; omega
            have hk1 : ((k - 1 : Nat) : Int) < (l.length : Int) + 1 := by omega
            have hk2 : k - 1 < l.length + 1 := by omega
            have hk3 : ((k - 1 : Nat) : Int) < ((l.length + 1 : Nat) : Int) := by omega
            have hkl1 : k - 1 < l.length := by omega
            have hly : l[k - 1]? = some l[k - 1] := List.getElem?_eq_getElem hkl1
            have hL1 : (l.take k ++ id :: l.drop k)[k - 1]? = some l[k - 1] := by
              rw [List.getElem?_append_left (by rw [List.length_take]; omega), List.getElem?_take_of_lt (by omega)]
              exact hly
            obtain ⟨ck1, fk1⟩ := HB2.out.int_cell (k - 1) _ hL1
            have hsw := swap_list l id l[k - 1] k hkn hk hly
            have hdr : l.drop (k - 1) = l[k - 1] :: l.drop k := by
              rw [List.drop_eq_getElem_cons hkl1, show k - 1 + 1 = k from by omega]
            have hpw := HG4.out
            have hmem : l[k - 1] ∈ l := List.getElem_mem hkl1
            have htk : ∀ x ∈ l.take k, x ≤ l[k - 1] := by
              intro x hx
              obtain ⟨j, hj, rfl⟩ := List.mem_iff_getElem.1 hx
              rw [List.length_take] at hj
              rw [List.getElem_take]
              by_cases hjk : j = k - 1
              · subst hjk; exact Int.le_refl _
              · exact Int.le_of_lt (List.pairwise_iff_getElem.1 hpw j (k - 1) (by omega) hkl1 (by omega))
            generalize l[k - 1] = y at *
            by_cases hy : id < y
            · have hyd : decide (id < y) = true := by simpa using hy
              have HSW := Lib.hid hsw
              have HDR := Lib.hid hdr
              clear hsw hdr hpw hmem htk hL1 hly
              go_wp2_with fail
              go_quiet (fail)
              go_wp2_with fail
              go_region
              go_wp2_with fail
              go_roundg (k - 1)
              case measure => omega
              case rel =>
                refine ⟨k - 1, by omega, by omega, by go_num, ⟨?_, ?_, ?_⟩, ?_, ?_⟩
                · exact ((((HA2.out.1.drewN _).drew).setCell (by simp; omega) _).setCell (by simp; omega) _)
                · exact Row.far (by simp; omega) (Row.far (by simp; omega) HA2.out.2.1.drewN.drew)
                · exact Row.far (by simp; omega) (Row.far (by simp; omega) HA2.out.2.2.drewN.drew)
                · rw [← HSW.out]
                  exact (((HB2.out.drewN _).drew).int_set k y).int_set (k - 1) id
                · rw [HDR.out]
                  intro x hx
                  rcases List.mem_cons.1 hx with rfl | hx
                  · omega
                  · exact HC2.out x hx
            · have hyd : decide (id < y) = false := by simpa using hy
              have hne : id ≠ y := fun h => HNL.out (h ▸ hmem)
              have hfin : insI id l = l.take k ++ id :: l.drop k := insI_at id l k (fun x hx => by have := htk x hx; omega) HC2.out
              clear hsw hdr hpw hmem htk hL1 hly
              go_wp2_with fail
              go_quiet (fail)
              go_wp2_with fail
              refine bodyPost_ret (v := .tuple #[.agg #[.int .i64 (ver + 1), .slice (some ⟨g, 0, none⟩) (l.length + 1) cap], .int .i64 0]) (by simp [results, Try.results28, go_sem, *]) rfl ⟨_, rfl, ?_, ?_⟩
              · exact (((HA2.out.1.drewN _).setCell (by simp) _).setCell (by simp) _)
              · have ho : OwnL 3 1 inc (w.heap.size + 1 + 1) wr (.slice (some ⟨g, 0, none⟩) (l.length + 1) cap) (insI id l) := by rw [hfin]; exact HB2.out
                exact (((ho.drewN _).set (by simp) _).set (by simp) _).lower (by omega)
end Go.Proofs.Ythollackhkiofaa
