/- ref.ParseOf. -/
import Derived.Test.YtglifpoiildpfaaCodeL
import Derived.Test.YtglifpoiildpfaaTickH
namespace Go.Proofs.Ytglifpoiildpfaa
set_option linter.unusedSimpArgs false
set_option linter.unusedVariables false
open Go Go.RowKit Lb

/-- the carry behind j bytes of 31 * N + v -/
def car (N v : Int) : Nat → Int
  | 0 => v
  | 1 => (31 * (N % 256) + v) / 256
  | 2 => (31 * (N % 65536) + v) / 65536
  | 3 => (31 * (N % 16777216) + v) / 16777216
  | 4 => (31 * (N % 4294967296) + v) / 4294967296
  | 5 => (31 * (N % 1099511627776) + v) / 1099511627776
  | 6 => (31 * (N % 281474976710656) + v) / 281474976710656
  | 7 => (31 * (N % 72057594037927936) + v) / 72057594037927936
  | _ => (31 * (N % 18446744073709551616) + v) / 18446744073709551616
theorem car_range (N v : Int) (h0 : 0 ≤ v) (h1 : v < 31) : ∀ j, 0 ≤ car N v j ∧ car N v j < 31
  | 0 => ⟨h0, h1⟩
  | 1 => by simp only [car]; omega
  | 2 => by simp only [car]; omega
  | 3 => by simp only [car]; omega
  | 4 => by simp only [car]; omega
  | 5 => by simp only [car]; omega
  | 6 => by simp only [car]; omega
  | 7 => by simp only [car]; omega
  | j + 8 => by simp only [car]; omega
/-- byte k of the eight, from the last one on -/
def by8 (N : Int) : Nat → Int
  | 0 => N % 256
  | 1 => N / 256 % 256
  | 2 => N / 65536 % 256
  | 3 => N / 16777216 % 256
  | 4 => N / 4294967296 % 256
  | 5 => N / 1099511627776 % 256
  | 6 => N / 281474976710656 % 256
  | _ => N / 72057594037927936 % 256
theorem by8_range (N : Int) (j : Nat) : 0 ≤ by8 N j ∧ by8 N j < 256 := by
  unfold by8
  split <;> omega
theorem by8_get (N : Int) (j k : Nat) (h : j + k = 7) : (bytes8 N)[k]? = some (by8 N j) := by
  have hi : j = 0 ∨ j = 1 ∨ j = 2 ∨ j = 3 ∨ j = 4 ∨ j = 5 ∨ j = 6 ∨ j = 7 := by omega
  rcases hi with rfl | rfl | rfl | rfl | rfl | rfl | rfl | rfl
  · obtain rfl : k = 7 := by omega
    rfl
  · obtain rfl : k = 6 := by omega
    rfl
  · obtain rfl : k = 5 := by omega
    rfl
  · obtain rfl : k = 4 := by omega
    rfl
  · obtain rfl : k = 3 := by omega
    rfl
  · obtain rfl : k = 2 := by omega
    rfl
  · obtain rfl : k = 1 := by omega
    rfl
  · obtain rfl : k = 0 := by omega
    rfl
theorem car_step (N v : Int) (j : Nat) (h : j < 8) : (31 * by8 N j + car N v j) % 256 = by8 ((31 * N + v) % 18446744073709551616) j ∧ (31 * by8 N j + car N v j) / 256 = car N v (j + 1) := by
  have hi : j = 0 ∨ j = 1 ∨ j = 2 ∨ j = 3 ∨ j = 4 ∨ j = 5 ∨ j = 6 ∨ j = 7 := by omega
  rcases hi with rfl | rfl | rfl | rfl | rfl | rfl | rfl | rfl
  case inr.inr.inr.inr.inr.inr.inr =>
    show (31 * (N / 72057594037927936 % 256) + (31 * (N % 72057594037927936) + v) / 72057594037927936) % 256 = (31 * N + v) % 18446744073709551616 / 72057594037927936 % 256 ∧
      (31 * (N / 72057594037927936 % 256) + (31 * (N % 72057594037927936) + v) / 72057594037927936) / 256 = (31 * (N % 18446744073709551616) + v) / 18446744073709551616
    omega
  all_goals
    refine ⟨?_, ?_⟩ <;> simp only [car, by8] <;> omega
/-- the row in the midst of a round: j bytes are done -/
def mixed (N M : Int) (j : Nat) : List Int := (bytes8 N).take (8 - j) ++ (bytes8 M).drop (8 - j)
theorem mixed_length (N M : Int) (j : Nat) : (mixed N M j).length = 8 := by
  unfold mixed
  rw [List.length_append, List.length_take, List.length_drop, show (bytes8 N).length = 8 from rfl, show (bytes8 M).length = 8 from rfl]; omega
theorem mixed_get (N M : Int) (j k : Nat) (h : j + k = 7) : (mixed N M j)[k]? = some (by8 N j) := by
  unfold mixed
  rw [List.getElem?_append_left (by rw [List.length_take, show (bytes8 N).length = 8 from rfl]; omega), List.getElem?_take, if_pos (by omega)]
  exact by8_get N j k h
theorem mixed_set (N M : Int) (j k : Nat) (h : j + k = 7) : (mixed N M j).set k (by8 M j) = mixed N M (j + 1) := by
  have h8 : (bytes8 N).length = 8 := rfl
  have h8' : (bytes8 M).length = 8 := rfl
  have hg := by8_get M j k h
  apply List.ext_getElem?
  intro i
  unfold mixed
  rw [List.getElem?_set]
  by_cases hik : k = i
  · subst hik
    rw [if_pos rfl, if_pos (by rw [List.length_append, List.length_take, List.length_drop]; omega)]
    rw [List.getElem?_append_right (by rw [List.length_take]; omega), List.length_take, List.getElem?_drop, ← hg]
    congr 1
    omega
  · rw [if_neg hik]
    by_cases hlt : i < k
    · rw [List.getElem?_append_left (by rw [List.length_take]; omega), List.getElem?_append_left (by rw [List.length_take]; omega), List.getElem?_take, List.getElem?_take, if_pos (by omega), if_pos (by omega)]
    · rw [List.getElem?_append_right (by rw [List.length_take]; omega), List.getElem?_append_right (by rw [List.length_take]; omega), List.length_take, List.length_take, List.getElem?_drop, List.getElem?_drop]
      congr 1
      omega

set_option maxHeartbeats 4000000 in
theorem ref_ParseOf (l : List UInt8) (hm : l.length ≤ 1048576) (w : World) :
    Calls Try.prog 30 #[.string (bs l)] w fun e w' => e = .returned (.tuple #[.agg (tkc ((parseTk l).getD tk0)), .bool (parseTk l).isSome]) ∧ Ext w w' := by
  have hsz := bs_size l
  have hv := fun w => ref_AreSigns l (by unfold maxLen; omega) w
  have HV := Lib.hid hv
  clear hv
  by_cases h14 : l.length ≠ 14 ∨ areSigns l = false
  · have hp : parseTk l = none := if_pos h14
    rw [hp]
    clear hp
    by_cases hln : l.length = 14
    · have ha : areSigns l = false := by
        rcases h14 with h | h
        · exact absurd hln h
        · exact h
      rw [ha] at HV
      rw [hln] at hsz
      clear h14 ha hln hm
      go_enter Try.func30, Try.ntmps30
      go_wp2_with fail
      refine (HV.out _).mono ?_
      rintro e w1 ⟨rfl, rfl⟩
      go_wp2_with fail
      refine bodyPost_ret (v := .tuple #[.agg #[.int .i64 0, .int .i64 0, .int .i64 0, .int .i64 0, .int .i64 0, .int .i64 0], .bool false]) (by simp [results, Try.results30, go_sem, *]) rfl ?_
      refine ⟨rfl, ?_⟩
      repeat (first | (with_reducible exact Ext.refl _) | (with_reducible refine Ext.alloc ?_ _) | (with_reducible apply Ext.setC; focus (simp <;> omega)) | (with_reducible refine Ext.drew ?_) | (with_reducible refine Ext.drewN ?_ _) | (with_reducible refine Ext.trans ?_ (Hid.out ‹Hid (Ext _ _)›)))
    · have hlb : ((l.length : Int) != 14) = true := by
        rw [bne_iff_ne]; omega
      clear h14 hln
      go_enter Try.func30, Try.ntmps30
      go_wp2_with fail
      refine bodyPost_ret (v := .tuple #[.agg #[.int .i64 0, .int .i64 0, .int .i64 0, .int .i64 0, .int .i64 0, .int .i64 0], .bool false]) (by simp [results, Try.results30, go_sem, *]) rfl ?_
      refine ⟨rfl, ?_⟩
      repeat (first | (with_reducible exact Ext.refl _) | (with_reducible refine Ext.alloc ?_ _) | (with_reducible apply Ext.setC; focus (simp <;> omega)) | (with_reducible refine Ext.drew ?_) | (with_reducible refine Ext.drewN ?_ _) | (with_reducible refine Ext.trans ?_ (Hid.out ‹Hid (Ext _ _)›)))
  · have h14' : l.length = 14 := Decidable.byContradiction fun h => h14 (.inl h)
    have hsg : areSigns l = true := by cases h : areSigns l with
      | true => rfl
      | false => exact absurd (.inr h) h14
    clear h14
    rw [hsg] at HV
    have HSG := Lib.hid hsg
    have HL := Lib.hid h14'
    have hvo := fun c w => ref_ValueOf c w
    have HVO := Lib.hid hvo
    rw [h14'] at hsz
    clear hsg h14' hm hvo
    have hmk : ∀ w : World, (Instr.makeSlice 50 (.int .i64 8) (.int .i64 8)).run Try.prog w = .ok (.slice (some ⟨w.heap.size, 0, none⟩) 8 8) (w.alloc (.cells #[.int .u8 0, .int .u8 0, .int .u8 0, .int .u8 0, .int .u8 0, .int .u8 0, .int .u8 0, .int .u8 0] 5)) := fun _ => by kernel_rfl
    generalize hR : (Ending.returned (.tuple #[.agg (tkc ((parseTk l).getD tk0)), .bool (parseTk l).isSome])) = R
    have HR := Lib.hid hR
    clear hR
    go_enter Try.func30, Try.ntmps30
    go_wp2_with fail
    refine (HV.out _).mono ?_
    rintro e w1 ⟨rfl, rfl⟩
    go_wp2_with fail
    go_loopg [5, 6, 7, 8] 13 (fun gg s5 _ _ _ wr => ∃ (i : Nat) (N : Int), i ≤ 13 ∧ 13 - i ≤ gg ∧ s5 = .int .i64 i ∧ Aside (0 ≤ N ∧ N < 18446744073709551616 ∧ N = pn 0 (l.take i)) ∧ Aside (Ext w wr ∧ BRow wr (w.heap.size + 1) (bytes8 N) ∧ Row wr w.heap.size #[.int .i64 0, .int .i64 0, .int .i64 0, .int .i64 0, .int .i64 0, .int .i64 0]))
    case atStart =>
      refine ⟨0, 0, by omega, by omega, rfl, ⟨by omega, by omega, rfl⟩, by repeat (first | (with_reducible exact Ext.refl _) | (with_reducible refine Ext.alloc ?_ _) | (with_reducible apply Ext.setC; focus (simp <;> omega)) | (with_reducible refine Ext.drew ?_) | (with_reducible refine Ext.drewN ?_ _) | (with_reducible refine Ext.trans ?_ (Hid.out ‹Hid (Ext _ _)›))), BRow.of_row (Row.newAt (by simp)), (Row.newAt rfl).alloc⟩
    case round =>
      obtain ⟨i, N, hi, hgi, rfl, HN, HW⟩ := hrel
      by_cases hlt : i < 13
      · have hlt' : (i : Int) < 13 := by omega
        have hil : i < l.length := by rw [HL.out]; omega
        have hpt := pn_take l i hil
        have hyb := valueOf_lt l[i]
        have hy0 := sign_all HSG.out i hil
        rw [← HN.out.2.2] at hpt
        have hget : (bs l)[i]'(by rw [bs_size]; exact hil) = l[i] := rfl
        have hvx := fun w => HVO.out l[i] w
        generalize l[i] = x at hget hvx hpt hyb hy0
        generalize valueOf x = y at hvx hpt hyb hy0
        have HVX := Lib.hid hvx
        have HPT := Lib.hid hpt
        clear hvx hpt
        go_wp2_with fail
        refine (HVX.out _).mono ?_
        rintro e w2 ⟨rfl, rfl⟩
        obtain ⟨wa, hwa⟩ : ∃ wa : World, wa = wr := ⟨_, rfl⟩
        go_wp2_with fail
        go_loopg [6, 7, 8] 8 (fun gg s6 s7 _ w2 => ∃ (j : Nat) (n : Int), j ≤ 8 ∧ 8 - j ≤ gg ∧ n = 7 - (j : Int) ∧ s6 = .int .i64 (car N y j) ∧ s7 = .int .i64 n ∧ Aside (Ext w w2 ∧ BRow w2 (w.heap.size + 1) (mixed N ((31 * N + y) % 18446744073709551616) j) ∧ Row w2 w.heap.size #[.int .i64 0, .int .i64 0, .int .i64 0, .int .i64 0, .int .i64 0, .int .i64 0]))
        case atStart =>
          refine ⟨0, 7, by omega, by omega, by omega, rfl, rfl, HW.out.1, ?_, HW.out.2.2⟩
          rw [show mixed N ((31 * N + y) % 18446744073709551616) 0 = bytes8 N from by simp [mixed, bytes8]]
          exact HW.out.2.1
        case round =>
          clear hwa
          obtain ⟨j, n, hj, hgj, hn, rfl, rfl, HW2⟩ := hrel
          obtain ⟨hE, hR, hT⟩ := HW2.out
          by_cases hj8 : j < 8
          · obtain ⟨k, hk⟩ : ∃ k, j + k = 7 := ⟨7 - j, by omega⟩
            obtain rfl : n = (k : Int) := by omega
            have hk8 : (k : Int) < 8 := by omega
            have hml := mixed_length N ((31 * N + y) % 18446744073709551616) j
            have hcell := hR.2.1 k (by omega)
            have hfz := hR.2.2 k (by omega)
            have hmg := mixed_get N ((31 * N + y) % 18446744073709551616) j k hk
            rw [List.getElem?_eq_getElem (by omega)] at hmg
            injection hmg with hmg
            rw [hmg] at hcell
            have hcs := car_step N y j hj8
            have hset := hR.set_ k (by omega) (by8 ((31 * N + y) % 18446744073709551616) j)
            rw [mixed_set N _ j k hk, ← hcs.1] at hset
            have hcs2 := hcs.2
            have hbr := by8_range N j
            have hcr := car_range N y hy0 hyb.2 j
            have hfar := Row.far (p := ⟨w.heap.size + 1, k, none⟩) (u := .int .u8 ((31 * by8 N j + car N y j) % 256)) (by simp) hT
            generalize by8 N j = q at hcell hset hcs2 hbr hfar
            generalize car N y j = c at hset hcs2 hcr hfar ⊢
            have HS := Lib.hid hset
            have HF := Lib.hid hfar
            have HE := Lib.hid hE
            have HC2 := Lib.hid hcs2
            have HK := Lib.hid hk
            have hlz := hR.1
            clear hset hfar hE hcs2 hk hR hT hcs hmg hml HW2 HW hn
            go_wp2_with fail
            go_roundg (8 - (j + 1))
            case measure => omega
            case rel =>
              refine ⟨j + 1, (k : Int) - 1, by omega, by omega, by have := HK.out; omega, by rw [HC2.out], by go_num, ?_, HS.out, HF.out⟩
              exact HE.out.setCell (by simp) _
          · obtain rfl : n = -1 := by omega
            have hj8e : j = 8 := by omega
            rw [hj8e] at hR
            have hR : BRow wr (w.heap.size + 1) (bytes8 ((31 * N + y) % 18446744073709551616)) := hR
            have HRR := Lib.hid hR
            have HE := Lib.hid hE
            have HT := Lib.hid hT
            clear hR hE hT HW2 HW hj8e hn
            go_wp2_with fail
            go_roundg (13 - (i + 1))
            case measure => omega
            case rel =>
              exact ⟨i + 1, (31 * N + y) % 18446744073709551616, by omega, by omega, by go_num, ⟨by omega, by omega, HPT.out.symm⟩, HE.out, HRR.out, HT.out⟩
      · have hge : ¬ (i : Int) < 13 := by omega
        have hi13 : i = 13 := by omega
        obtain ⟨-, -, hN2⟩ := HN.out
        rw [hi13] at hN2
        obtain ⟨hE, hR, hT⟩ := HW.out
        have hrun := fun c => hR.conv_run (n := 8) (c := c) rfl
        rw [bytes8_nums] at hrun
        have hpar : parseTk l = if (decodeTk (b8 N)).2 ≠ 0 then none else if codeOf (decodeTk (b8 N)).1 ≠ l then none else some (decodeTk (b8 N)).1 := by
          rw [hN2]
          unfold parseTk
          rw [if_neg (by rw [HL.out, HSG.out]; simp)]
        have hdc := fun w => ref_TicketOf (b8 N) w
        have hok := fun h => (enc_dec (b8 N) h).2
        generalize b8 N = bb at hrun hpar hdc hok
        generalize decodeTk bb = d at hpar hdc hok
        obtain ⟨t, e⟩ := d
        simp only at hpar hdc hok
        apply Row.use hT; intro qt ft lt RT
        have HE := Lib.hid hE
        have hlz := hR.1
        clear hi13 hR hE hT HW hN2 HN
        obtain ⟨t0, t1, t2, t3, t4, t5⟩ := t
        simp only [tkc] at hdc
        by_cases he : e = 0
        · rw [if_neg (by simpa using he)] at hpar
          have htx := fun w => ref_CodeOf ⟨t0, t1, t2, t3, t4, t5⟩ (hok he) w
          have hbq := bs_beq (codeOf ⟨t0, t1, t2, t3, t4, t5⟩) l
          generalize codeOf ⟨t0, t1, t2, t3, t4, t5⟩ = C at hpar htx hbq
          simp only [tkc] at htx
          subst he
          by_cases hCl : C = l
          · rw [decide_eq_true hCl] at hbq
            rw [if_neg (by simpa using hCl)] at hpar
            have hRv : R = .returned (.tuple #[.agg (tkc ⟨t0, t1, t2, t3, t4, t5⟩), .bool true]) := by
              rw [← HR.out, hpar]; rfl
            have HRv := Lib.hid hRv
            have HDC := Lib.hid hdc
            have HTX := Lib.hid htx
            clear hRv hpar hok hdc HR htx hCl
            go_wp2_with fail
            refine (HDC.out _).mono ?_
            rintro e1 w3 ⟨rfl, h3⟩
            have H3 := Lib.hid h3
            have hz3 := h3.size
            clear h3
            (apply Row.use (w := w3) (g := w.heap.size); (focus (repeat (first | (with_reducible exact Hid.out ‹Hid (Row _ _ _)›) | (with_reducible exact Row.newAt rfl) | (with_reducible apply Row.newAt; (simp; done)) | (with_reducible apply Row.set_) | (with_reducible apply Row.far; focus (simp <;> omega)) | (with_reducible apply Row.alloc) | (with_reducible apply Row.drew) | (with_reducible apply Row.drewN) | (with_reducible apply Row.ext (Hid.out ‹Hid (Ext _ _)›))))); intro q3_0 f3_0 l3_0 R3_0; (try simp only [List.setIfInBounds_toArray, List.set_cons_zero, List.set_cons_succ] at q3_0 R3_0))
            go_wp2_with fail
            refine (HTX.out _).mono ?_
            rintro e1 w4 ⟨rfl, h4⟩
            have H4 := Lib.hid h4
            have hz4 := h4.size
            clear h4
            (try simp only [World.size_alloc] at hz4)
            (apply Row.use (w := w4) (g := w.heap.size); (focus (repeat (first | (with_reducible exact Hid.out ‹Hid (Row _ _ _)›) | (with_reducible exact Row.newAt rfl) | (with_reducible apply Row.newAt; (simp; done)) | (with_reducible apply Row.set_) | (with_reducible apply Row.far; focus (simp <;> omega)) | (with_reducible apply Row.alloc) | (with_reducible apply Row.drew) | (with_reducible apply Row.drewN) | (with_reducible apply Row.ext (Hid.out ‹Hid (Ext _ _)›))))); intro q4_0 f4_0 l4_0 R4_0; (try simp only [List.setIfInBounds_toArray, List.set_cons_zero, List.set_cons_succ] at q4_0 R4_0); apply Row.use (w := w4) (g := w3.heap.size); (focus (repeat (first | (with_reducible exact Hid.out ‹Hid (Row _ _ _)›) | (with_reducible exact Row.newAt rfl) | (with_reducible apply Row.newAt; (simp; done)) | (with_reducible apply Row.set_) | (with_reducible apply Row.far; focus (simp <;> omega)) | (with_reducible apply Row.alloc) | (with_reducible apply Row.drew) | (with_reducible apply Row.drewN) | (with_reducible apply Row.ext (Hid.out ‹Hid (Ext _ _)›))))); intro q4_1 f4_1 l4_1 R4_1; (try simp only [List.setIfInBounds_toArray, List.set_cons_zero, List.set_cons_succ] at q4_1 R4_1))
            go_wp2_with fail
            refine bodyPost_ret (v := .tuple #[.agg #[.int .i64 t0, .int .i64 t1, .int .i64 t2, .int .i64 t3, .int .i64 t4, .int .i64 t5], .bool true]) (by simp [results, Try.results30, go_sem, *]) rfl ?_
            refine ⟨HRv.out.symm, ?_⟩
            repeat (first | (with_reducible exact Ext.refl _) | (with_reducible refine Ext.alloc ?_ _) | (with_reducible apply Ext.setC; focus (simp <;> omega)) | (with_reducible refine Ext.drew ?_) | (with_reducible refine Ext.drewN ?_ _) | (with_reducible refine Ext.trans ?_ (Hid.out ‹Hid (Ext _ _)›)))
          · rw [decide_eq_false hCl] at hbq
            rw [if_pos (by simpa using hCl)] at hpar
            have hRv : R = .returned (.tuple #[.agg (tkc tk0), .bool false]) := by
              rw [← HR.out, hpar]; rfl
            have HRv := Lib.hid hRv
            have HDC := Lib.hid hdc
            have HTX := Lib.hid htx
            clear hRv hpar hok hdc HR htx hCl
            go_wp2_with fail
            refine (HDC.out _).mono ?_
            rintro e1 w3 ⟨rfl, h3⟩
            have H3 := Lib.hid h3
            have hz3 := h3.size
            clear h3
            (apply Row.use (w := w3) (g := w.heap.size); (focus (repeat (first | (with_reducible exact Hid.out ‹Hid (Row _ _ _)›) | (with_reducible exact Row.newAt rfl) | (with_reducible apply Row.newAt; (simp; done)) | (with_reducible apply Row.set_) | (with_reducible apply Row.far; focus (simp <;> omega)) | (with_reducible apply Row.alloc) | (with_reducible apply Row.drew) | (with_reducible apply Row.drewN) | (with_reducible apply Row.ext (Hid.out ‹Hid (Ext _ _)›))))); intro q3_0 f3_0 l3_0 R3_0; (try simp only [List.setIfInBounds_toArray, List.set_cons_zero, List.set_cons_succ] at q3_0 R3_0))
            go_wp2_with fail
            refine (HTX.out _).mono ?_
            rintro e1 w4 ⟨rfl, h4⟩
            have H4 := Lib.hid h4
            have hz4 := h4.size
            clear h4
            (try simp only [World.size_alloc] at hz4)
            (apply Row.use (w := w4) (g := w.heap.size); (focus (repeat (first | (with_reducible exact Hid.out ‹Hid (Row _ _ _)›) | (with_reducible exact Row.newAt rfl) | (with_reducible apply Row.newAt; (simp; done)) | (with_reducible apply Row.set_) | (with_reducible apply Row.far; focus (simp <;> omega)) | (with_reducible apply Row.alloc) | (with_reducible apply Row.drew) | (with_reducible apply Row.drewN) | (with_reducible apply Row.ext (Hid.out ‹Hid (Ext _ _)›))))); intro q4_0 f4_0 l4_0 R4_0; (try simp only [List.setIfInBounds_toArray, List.set_cons_zero, List.set_cons_succ] at q4_0 R4_0); apply Row.use (w := w4) (g := w3.heap.size); (focus (repeat (first | (with_reducible exact Hid.out ‹Hid (Row _ _ _)›) | (with_reducible exact Row.newAt rfl) | (with_reducible apply Row.newAt; (simp; done)) | (with_reducible apply Row.set_) | (with_reducible apply Row.far; focus (simp <;> omega)) | (with_reducible apply Row.alloc) | (with_reducible apply Row.drew) | (with_reducible apply Row.drewN) | (with_reducible apply Row.ext (Hid.out ‹Hid (Ext _ _)›))))); intro q4_1 f4_1 l4_1 R4_1; (try simp only [List.setIfInBounds_toArray, List.set_cons_zero, List.set_cons_succ] at q4_1 R4_1))
            go_wp2_with fail
            refine bodyPost_ret (v := .tuple #[.agg #[.int .i64 0, .int .i64 0, .int .i64 0, .int .i64 0, .int .i64 0, .int .i64 0], .bool false]) (by simp [results, Try.results30, go_sem, *]) rfl ?_
            refine ⟨HRv.out.symm, ?_⟩
            repeat (first | (with_reducible exact Ext.refl _) | (with_reducible refine Ext.alloc ?_ _) | (with_reducible apply Ext.setC; focus (simp <;> omega)) | (with_reducible refine Ext.drew ?_) | (with_reducible refine Ext.drewN ?_ _) | (with_reducible refine Ext.trans ?_ (Hid.out ‹Hid (Ext _ _)›)))
        · rw [if_pos he] at hpar
          have heb : (e != 0) = true := by simpa using he
          have hRv : R = .returned (.tuple #[.agg (tkc tk0), .bool false]) := by
            rw [← HR.out, hpar]; rfl
          have HRv := Lib.hid hRv
          have HDC := Lib.hid hdc
          clear hRv hpar hok he hdc HR
          go_wp2_with fail
          refine (HDC.out _).mono ?_
          rintro e1 w3 ⟨rfl, h3⟩
          have H3 := Lib.hid h3
          have hz3 := h3.size
          clear h3
          (apply Row.use (w := w3) (g := w.heap.size); (focus (repeat (first | (with_reducible exact Hid.out ‹Hid (Row _ _ _)›) | (with_reducible exact Row.newAt rfl) | (with_reducible apply Row.newAt; (simp; done)) | (with_reducible apply Row.set_) | (with_reducible apply Row.far; focus (simp <;> omega)) | (with_reducible apply Row.alloc) | (with_reducible apply Row.drew) | (with_reducible apply Row.drewN) | (with_reducible apply Row.ext (Hid.out ‹Hid (Ext _ _)›))))); intro q3_0 f3_0 l3_0 R3_0; (try simp only [List.setIfInBounds_toArray, List.set_cons_zero, List.set_cons_succ] at q3_0 R3_0))
          go_wp2_with fail
          refine bodyPost_ret (v := .tuple #[.agg #[.int .i64 0, .int .i64 0, .int .i64 0, .int .i64 0, .int .i64 0, .int .i64 0], .bool false]) (by simp [results, Try.results30, go_sem, *]) rfl ?_
          refine ⟨HRv.out.symm, ?_⟩
          repeat (first | (with_reducible exact Ext.refl _) | (with_reducible refine Ext.alloc ?_ _) | (with_reducible apply Ext.setC; focus (simp <;> omega)) | (with_reducible refine Ext.drew ?_) | (with_reducible refine Ext.drewN ?_ _) | (with_reducible refine Ext.trans ?_ (Hid.out ‹Hid (Ext _ _)›)))
end Go.Proofs.Ytglifpoiildpfaa
