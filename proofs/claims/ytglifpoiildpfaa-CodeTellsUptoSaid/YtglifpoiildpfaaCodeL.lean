/- code.Parse. -/
import Derived.Test.YtglifpoiildpfaaCodeK
import Derived.Test.YtglifpoiildpfaaTickG
import Derived.Test.YtglifpoiildpfaaTickP
namespace Go.Proofs.Ytglifpoiildpfaa
set_option linter.unusedSimpArgs false
set_option linter.unusedVariables false
open Go Go.RowKit Lb

/-- digits read as a number of 64 bits -/
def pn (a : Int) : List UInt8 → Int
  | [] => a
  | c :: l => pn ((31 * a + valueOf c) % 18446744073709551616) l
/-- the eight bytes of a number -/
def bytes8 (N : Int) : List Int := [N / 72057594037927936 % 256, N / 281474976710656 % 256, N / 1099511627776 % 256, N / 4294967296 % 256, N / 16777216 % 256, N / 65536 % 256, N / 256 % 256, N % 256]
def b8 (N : Int) : List UInt8 := (bytes8 N).map fun n => UInt8.ofNat n.toNat
def parseTk (l : List UInt8) : Option Tk :=
  if l.length ≠ 14 ∨ areSigns l = false then none
  else if (decodeTk (b8 (pn 0 (l.take 13)))).2 ≠ 0 then none
  else if codeOf (decodeTk (b8 (pn 0 (l.take 13)))).1 ≠ l then none
  else some (decodeTk (b8 (pn 0 (l.take 13)))).1
def parseE (l : List UInt8) : Int := if (parseTk l).isSome then 0 else 1
theorem pn_append (a : Int) (l m : List UInt8) : pn a (l ++ m) = pn (pn a l) m := by
  induction l generalizing a with
  | nil => rfl
  | cons c l ih => simp only [List.cons_append, pn, ih]
theorem pn_take (l : List UInt8) (k : Nat) (h : k < l.length) : pn 0 (l.take (k + 1)) = (31 * pn 0 (l.take k) + valueOf l[k]) % 18446744073709551616 := by
  rw [List.take_succ_eq_append_getElem h, pn_append]
  rfl
theorem pn_range (a : Int) (l : List UInt8) (h0 : 0 ≤ a) (h1 : a < 18446744073709551616) : 0 ≤ pn a l ∧ pn a l < 18446744073709551616 := by
  induction l generalizing a with
  | nil => exact ⟨h0, h1⟩
  | cons c l ih => exact ih _ (by omega) (by omega)

theorem b8_get (N : Int) : ∀ i j, i + j = 7 → (bytes8 N)[j]? = some (N / 2 ^ (8 * i) % 256) := by
  intro i j h
  have hi : i = 0 ∨ i = 1 ∨ i = 2 ∨ i = 3 ∨ i = 4 ∨ i = 5 ∨ i = 6 ∨ i = 7 := by omega
  rcases hi with rfl | rfl | rfl | rfl | rfl | rfl | rfl | rfl
  · obtain rfl : j = 7 := by omega
    simp [bytes8]
  · obtain rfl : j = 6 := by omega
    simp [bytes8]
  · obtain rfl : j = 5 := by omega
    simp [bytes8]
  · obtain rfl : j = 4 := by omega
    simp [bytes8]
  · obtain rfl : j = 3 := by omega
    simp [bytes8]
  · obtain rfl : j = 2 := by omega
    simp [bytes8]
  · obtain rfl : j = 1 := by omega
    simp [bytes8]
  · obtain rfl : j = 0 := by omega
    simp [bytes8]
theorem b8_step (N : Int) (ys : List Int) (i j : Nat) (h : i + j = 7) (hl : ys.length = 8) (hd : ys.drop (8 - i) = (bytes8 N).drop (8 - i)) :
    (ys.set j (N / 2 ^ (8 * i) % 256)).drop (8 - (i + 1)) = (bytes8 N).drop (8 - (i + 1)) := by
  have h8 : (bytes8 N).length = 8 := rfl
  have hg := b8_get N i j h
  rw [show 8 - (i + 1) = j by omega, List.drop_eq_getElem_cons (by rw [List.length_set]; omega), List.getElem_set_self, List.drop_set, if_pos (by omega), show j + 1 = 8 - i by omega, hd,
    List.drop_eq_getElem_cons (i := j) (by omega), show j + 1 = 8 - i by omega]
  rw [List.getElem?_eq_getElem (by omega)] at hg
  injection hg with hg
  rw [hg]
theorem bytes8_nums (N : Int) : strOfNums (bytes8 N) = bs (b8 N) := strOfNums_bs _
theorem u64_step (N y : Int) : IntKind.u64.wrap (IntKind.u64.wrap (N * 31) + y) = (31 * N + y) % 18446744073709551616 := by
  rw [IntKind.wrap_u64, IntKind.wrap_u64]
  omega

set_option maxHeartbeats 4000000 in
theorem code_Parse (l : List UInt8) (hm : l.length ≤ 1048576) (w : World) :
    Calls Try.prog 27 #[.string (bs l)] w fun e w' => e = .returned (.tuple #[.agg (tkc ((parseTk l).getD tk0)), .int .i64 (parseE l)]) ∧ Ext w w' := by
  have hsz := bs_size l
  have hv := fun w => code_values l hm w
  have HV := Lib.hid hv
  clear hv
  by_cases h14 : l.length ≠ 14 ∨ areSigns l = false
  · have hp : parseTk l = none := if_pos h14
    unfold parseE
    rw [hp]
    clear hp
    cases ha : areSigns l with
    | false =>
      rw [ha] at HV
      clear h14 ha
      go_enter Try.func27, Try.ntmps27
      go_wp2_with fail
      refine (HV.out _).mono ?_
      rintro e w1 ⟨h1, ⟨-, rfl⟩ | ⟨h2, -⟩⟩
      case inr => exact absurd h2 (by decide)
      have H1 := Lib.hid h1
      clear h1
      (apply Row.use (w := w1) (g := w.heap.size); (focus (repeat (first | (with_reducible exact Hid.out ‹Hid (Row _ _ _)›) | (with_reducible exact Row.newAt rfl) | (with_reducible apply Row.newAt; (simp; done)) | (with_reducible apply Row.set_) | (with_reducible apply Row.far; focus (simp <;> omega)) | (with_reducible apply Row.alloc) | (with_reducible apply Row.drew) | (with_reducible apply Row.drewN) | (with_reducible apply Row.ext (Hid.out ‹Hid (Ext _ _)›))))); intro q1_0 f1_0 l1_0 R1_0; (try simp only [List.setIfInBounds_toArray, List.set_cons_zero, List.set_cons_succ] at q1_0 R1_0))
      go_wp2_with fail
      refine bodyPost_ret (v := .tuple #[.agg #[.int .i64 0, .int .i64 0, .int .i64 0, .int .i64 0, .int .i64 0, .int .i64 0], .int .i64 1]) (by simp [results, Try.results27, go_sem, *]) rfl ?_
      refine ⟨rfl, ?_⟩
      repeat (first | (with_reducible exact Ext.refl _) | (with_reducible refine Ext.alloc ?_ _) | (with_reducible apply Ext.setC; focus (simp <;> omega)) | (with_reducible refine Ext.drew ?_) | (with_reducible refine Ext.drewN ?_ _) | (with_reducible refine Ext.trans ?_ (Hid.out ‹Hid (Ext _ _)›)))
    | true =>
      have hln : ((l.length : Int) != 14) = true := by
        rw [bne_iff_ne]
        rcases h14 with h | h
        · omega
        · exact absurd (ha.symm.trans h) (by decide)
      rw [ha] at HV
      clear h14 ha
      go_enter Try.func27, Try.ntmps27
      go_wp2_with fail
      refine (HV.out _).mono ?_
      rintro e w1 ⟨h1, ⟨h2, -⟩ | ⟨-, v, rfl, -⟩⟩
      · exact absurd h2 (by decide)
      have H1 := Lib.hid h1
      clear h1
      (apply Row.use (w := w1) (g := w.heap.size); (focus (repeat (first | (with_reducible exact Hid.out ‹Hid (Row _ _ _)›) | (with_reducible exact Row.newAt rfl) | (with_reducible apply Row.newAt; (simp; done)) | (with_reducible apply Row.set_) | (with_reducible apply Row.far; focus (simp <;> omega)) | (with_reducible apply Row.alloc) | (with_reducible apply Row.drew) | (with_reducible apply Row.drewN) | (with_reducible apply Row.ext (Hid.out ‹Hid (Ext _ _)›))))); intro q1_0 f1_0 l1_0 R1_0; (try simp only [List.setIfInBounds_toArray, List.set_cons_zero, List.set_cons_succ] at q1_0 R1_0))
      go_wp2_with fail
      refine bodyPost_ret (v := .tuple #[.agg #[.int .i64 0, .int .i64 0, .int .i64 0, .int .i64 0, .int .i64 0, .int .i64 0], .int .i64 1]) (by simp [results, Try.results27, go_sem, *]) rfl ?_
      refine ⟨rfl, ?_⟩
      repeat (first | (with_reducible exact Ext.refl _) | (with_reducible refine Ext.alloc ?_ _) | (with_reducible apply Ext.setC; focus (simp <;> omega)) | (with_reducible refine Ext.drew ?_) | (with_reducible refine Ext.drewN ?_ _) | (with_reducible refine Ext.trans ?_ (Hid.out ‹Hid (Ext _ _)›)))
  · have h14' : l.length = 14 := Decidable.byContradiction fun h => h14 (.inl h)
    have hsg : areSigns l = true := by cases h : areSigns l with
      | true => rfl
      | false => exact absurd (.inr h) h14
    clear h14
    have HSG := Lib.hid hsg
    have HL := Lib.hid h14'
    rw [h14'] at hsz
    clear hsg h14' hm
    generalize hR : (Ending.returned (.tuple #[.agg (tkc ((parseTk l).getD tk0)), .int .i64 (parseE l)])) = R
    have HR := Lib.hid hR
    clear hR
    go_enter Try.func27, Try.ntmps27
    go_wp2_with fail
    refine (HV.out _).mono ?_
    rintro e w1 ⟨h1, ⟨h2, -⟩ | ⟨-, v, rfl, h2⟩⟩
    · exact absurd (h2.symm.trans HSG.out) (by decide)
    rw [HL.out] at h2
    obtain ⟨g, cap, hv, hg, hgs⟩ := h2.form (by omega)
    subst hv
    have hcell : ∀ i (hi : i < l.length), w1.cell? ⟨g, i, none⟩ = some (.int .i64 (valueOf l[i])) := by
      intro i hi
      have := HL.out
      rw [h2.cellAt i (by omega)]
      simp [vals, hi]
    have hcap : 14 ≤ cap := by
      rcases h2.2 with ⟨h, -⟩ | ⟨_, _, _, h, _, _, hn, _⟩
      · cases h
      · injection h with _ _ h3; omega
    have HC := Lib.hid hcell
    have H1 := Lib.hid h1
    clear h1 h2 hcell
    (apply Row.use (w := w1) (g := w.heap.size); (focus (repeat (first | (with_reducible exact Hid.out ‹Hid (Row _ _ _)›) | (with_reducible exact Row.newAt rfl) | (with_reducible apply Row.newAt; (simp; done)) | (with_reducible apply Row.set_) | (with_reducible apply Row.far; focus (simp <;> omega)) | (with_reducible apply Row.alloc) | (with_reducible apply Row.drew) | (with_reducible apply Row.drewN) | (with_reducible apply Row.ext (Hid.out ‹Hid (Ext _ _)›))))); intro q1_0 f1_0 l1_0 R1_0; (try simp only [List.setIfInBounds_toArray, List.set_cons_zero, List.set_cons_succ] at q1_0 R1_0))
    go_wp2_with fail
    go_loopg [6, 8, 29] 13 (fun gg s6 _ s29 wr => wr = w1 ∧ ∃ (k : Nat) (N : Int), k ≤ 13 ∧ 13 - k ≤ gg ∧ s6 = .int .u64 N ∧ s29 = .int .i64 k ∧ 0 ≤ N ∧ Aside (N < 18446744073709551616 ∧ N = pn 0 (l.take k)))
    case atStart => exact ⟨rfl, 0, 0, by omega, by omega, rfl, rfl, by omega, by simp [Aside, pn]⟩
    case round =>
      obtain ⟨rfl, k, N, hk, hgk, rfl, rfl, hN0, HN⟩ := hrel
      by_cases hlt : k < 13
      · have hlt' : (k : Int) < 13 := by omega
        have hkl : k < l.length := by rw [HL.out]; omega
        have hc := HC.out k hkl
        have hpt := pn_take l k hkl
        have hvl := valueOf_lt l[k]
        have hv0 := sign_all HSG.out k hkl
        rw [← HN.out.2] at hpt
        generalize valueOf l[k] = y at hc hpt hvl hv0
        have hvl' := hvl.2
        have HPT := Lib.hid hpt
        clear hpt HN hvl
        go_wp2_with fail
        go_roundg (13 - (k + 1))
        case measure => omega
        case rel => exact ⟨rfl, k + 1, (31 * N + y) % 18446744073709551616, by omega, by omega, by rw [u64_step], by go_num, by omega, ⟨by omega, HPT.out.symm⟩⟩
      · have hge : ¬ (k : Int) < 13 := by omega
        have hk13 : k = 13 := by omega
        obtain ⟨hN1, hN2⟩ := HN.out
        rw [hk13] at hN2
        have HN1 := Lib.hid hN1
        have HN2 := Lib.hid hN2
        clear hk13 hN1 hN2 HN HC
        obtain ⟨wa, rfl⟩ : ∃ wa : World, wa = wr := ⟨_, rfl⟩
        clear q1_0 f1_0
        go_wp2_with fail
        go_loopg [10, 39] 8 (fun gg _ s39 w2 => ∃ (i : Nat) (ys : List Int), i ≤ 8 ∧ 8 - i ≤ gg ∧ s39 = .int .i64 i ∧ Aside (ys.length = 8 ∧ ys.drop (8 - i) = (bytes8 N).drop (8 - i)) ∧ Aside (Ext w w2 ∧ BRow w2 wa.heap.size ys ∧ Row w2 w.heap.size #[.int .i64 0, .int .i64 0, .int .i64 0, .int .i64 0, .int .i64 0, .int .i64 0]))
        case atStart =>
          refine ⟨0, List.replicate 8 0, by omega, by omega, rfl, ⟨by simp, by simp [bytes8]⟩, by repeat (first | (with_reducible exact Ext.refl _) | (with_reducible refine Ext.alloc ?_ _) | (with_reducible apply Ext.setC; focus (simp <;> omega)) | (with_reducible refine Ext.drew ?_) | (with_reducible refine Ext.drewN ?_ _) | (with_reducible refine Ext.trans ?_ (Hid.out ‹Hid (Ext _ _)›))), BRow.of_row (Row.newAt rfl), R1_0.out.alloc⟩
        case round =>
          obtain ⟨i, ys, hi, hgi, rfl, HY, HW⟩ := hrel
          by_cases hi8 : i < 8
          · have hi8' : (i : Int) < 8 := by omega
            obtain ⟨hyl, hyd⟩ := HY.out
            obtain ⟨hE, hR, hT⟩ := HW.out
            obtain ⟨j, hj⟩ : ∃ j, i + j = 7 := ⟨7 - i, by omega⟩
            have hji : (7 : Int) - i = (j : Int) := by omega
            have hj8 : (j : Int) < 8 := by omega
            have hjc := hR.2.1 j (by omega)
            have hjf := hR.2.2 j (by omega)
            have hset := hR.set_ j (by omega) (N / 2 ^ (8 * i) % 256)
            have hst := b8_step N ys i j hj hyl hyd
            generalize ys[j] = yj at hjc
            have HS := Lib.hid hset
            have HT := Lib.hid (Row.far (p := ⟨wa.heap.size, j, none⟩) (u := .int .u8 (N / 2 ^ (8 * i) % 256)) (by simp; omega) hT)
            have HE := Lib.hid hE
            have HST := Lib.hid hst
            have HYL := Lib.hid hyl
            have HJ := Lib.hid hj
            clear hset hT hE hst hyl hyd hR HY HW hj
            go_wp2_with fail
            go_roundg (8 - (i + 1))
            case measure => omega
            case rel =>
              refine ⟨i + 1, ys.set j (N / 2 ^ (8 * i) % 256), by omega, by omega, by go_num, ⟨by rw [List.length_set, HYL.out], HST.out⟩, ?_, HS.out, HT.out⟩
              exact HE.out.setCell (by simp; exact Nat.le_trans (by simp) H1.out.size) _
          · have hge8 : ¬ (i : Int) < 8 := by omega
            have hi8e : i = 8 := by omega
            obtain ⟨hyl, hyd⟩ := HY.out
            obtain ⟨hE, hR, hT⟩ := HW.out
            rw [hi8e] at hyd
            have hyd : ys = bytes8 N := hyd
            rw [hyd] at hR
            have hrun := fun c => hR.conv_run (n := 8) (c := c) rfl
            rw [bytes8_nums] at hrun
            have hpar : parseTk l = if (decodeTk (b8 N)).2 ≠ 0 then none else if codeOf (decodeTk (b8 N)).1 ≠ l then none else some (decodeTk (b8 N)).1 := by
              rw [HN2.out]
              unfold parseTk
              rw [if_neg (by rw [HL.out, HSG.out]; simp)]
            have hdc := fun w => ticket_Decode (b8 N) w
            have hok := fun h => (enc_dec (b8 N) h).2
            generalize b8 N = bb at hrun hpar hdc hok
            generalize decodeTk bb = d at hpar hdc hok
            obtain ⟨t, e⟩ := d
            simp only at hpar hdc hok
            apply Row.use hT; intro qt ft lt RT
            have HE := Lib.hid hE
            clear hyd hyl hi8e hR hE hT HY HW HN2 HN1
            obtain ⟨t0, t1, t2, t3, t4, t5⟩ := t
            simp only [tkc] at hdc
            by_cases he : e = 0
            · rw [if_neg (by simpa using he)] at hpar
              have htx := fun w => code_Text ⟨t0, t1, t2, t3, t4, t5⟩ (hok he) w
              have hbq := bs_beq (codeOf ⟨t0, t1, t2, t3, t4, t5⟩) l
              generalize codeOf ⟨t0, t1, t2, t3, t4, t5⟩ = C at hpar htx hbq
              simp only [tkc] at htx
              subst he
              by_cases hCl : C = l
              · rw [decide_eq_true hCl] at hbq
                rw [if_neg (by simpa using hCl)] at hpar
                have hRv : R = .returned (.tuple #[.agg (tkc ⟨t0, t1, t2, t3, t4, t5⟩), .int .i64 0]) := by
                  rw [← HR.out, parseE, hpar]; rfl
                have HRv := Lib.hid hRv
                have HDC := Lib.hid hdc
                have HTX := Lib.hid htx
                clear hRv hpar hok hdc HR htx hCl
                go_wp2_with fail
                refine (HDC.out _).mono ?_
                rintro e1 w3 ⟨rfl, h3⟩
                have H3 := Lib.hid h3
                have hz3 := h3.size
                clear h3
                (apply Row.use (w := w3) (g := w.heap.size); (focus (repeat (first | (with_reducible exact Hid.out ‹Hid (Row _ _ _)›) | (with_reducible exact Row.newAt rfl) | (with_reducible apply Row.newAt; (simp; done)) | (with_reducible apply Row.set_) | (with_reducible apply Row.far; focus (simp <;> omega)) | (with_reducible apply Row.alloc) | (with_reducible apply Row.drew) | (with_reducible apply Row.drewN) | (with_reducible apply Row.ext (Hid.out ‹Hid (Ext _ _)›))))); intro q3_0 f3_0 l3_0 R3_0; (try simp only [List.setIfInBounds_toArray, List.set_cons_zero, List.set_cons_succ] at q3_0 R3_0))
                go_wp2_with fail
                refine (HTX.out _).mono ?_
                rintro e1 w4 ⟨rfl, h4⟩
                have H4 := Lib.hid h4
                have hz4 := h4.size
                clear h4
                (try simp only [World.size_alloc] at hz4)
                (apply Row.use (w := w4) (g := w.heap.size); (focus (repeat (first | (with_reducible exact Hid.out ‹Hid (Row _ _ _)›) | (with_reducible exact Row.newAt rfl) | (with_reducible apply Row.newAt; (simp; done)) | (with_reducible apply Row.set_) | (with_reducible apply Row.far; focus (simp <;> omega)) | (with_reducible apply Row.alloc) | (with_reducible apply Row.drew) | (with_reducible apply Row.drewN) | (with_reducible apply Row.ext (Hid.out ‹Hid (Ext _ _)›))))); intro q4_0 f4_0 l4_0 R4_0; (try simp only [List.setIfInBounds_toArray, List.set_cons_zero, List.set_cons_succ] at q4_0 R4_0); apply Row.use (w := w4) (g := w3.heap.size); (focus (repeat (first | (with_reducible exact Hid.out ‹Hid (Row _ _ _)›) | (with_reducible exact Row.newAt rfl) | (with_reducible apply Row.newAt; (simp; done)) | (with_reducible apply Row.set_) | (with_reducible apply Row.far; focus (simp <;> omega)) | (with_reducible apply Row.alloc) | (with_reducible apply Row.drew) | (with_reducible apply Row.drewN) | (with_reducible apply Row.ext (Hid.out ‹Hid (Ext _ _)›))))); intro q4_1 f4_1 l4_1 R4_1; (try simp only [List.setIfInBounds_toArray, List.set_cons_zero, List.set_cons_succ] at q4_1 R4_1))
                go_wp2_with fail
                refine bodyPost_ret (v := .tuple #[.agg #[.int .i64 t0, .int .i64 t1, .int .i64 t2, .int .i64 t3, .int .i64 t4, .int .i64 t5], .int .i64 0]) (by simp [results, Try.results27, go_sem, *]) rfl ?_
                refine ⟨HRv.out.symm, ?_⟩
                repeat (first | (with_reducible exact Ext.refl _) | (with_reducible refine Ext.alloc ?_ _) | (with_reducible apply Ext.setC; focus (simp <;> omega)) | (with_reducible refine Ext.drew ?_) | (with_reducible refine Ext.drewN ?_ _) | (with_reducible refine Ext.trans ?_ (Hid.out ‹Hid (Ext _ _)›)))
              · rw [decide_eq_false hCl] at hbq
                rw [if_pos (by simpa using hCl)] at hpar
                have hRv : R = .returned (.tuple #[.agg (tkc tk0), .int .i64 1]) := by
                  rw [← HR.out, parseE, hpar]; rfl
                have HRv := Lib.hid hRv
                have HDC := Lib.hid hdc
                have HTX := Lib.hid htx
                clear hRv hpar hok hdc HR htx hCl
                go_wp2_with fail
                refine (HDC.out _).mono ?_
                rintro e1 w3 ⟨rfl, h3⟩
                have H3 := Lib.hid h3
                have hz3 := h3.size
                clear h3
                (apply Row.use (w := w3) (g := w.heap.size); (focus (repeat (first | (with_reducible exact Hid.out ‹Hid (Row _ _ _)›) | (with_reducible exact Row.newAt rfl) | (with_reducible apply Row.newAt; (simp; done)) | (with_reducible apply Row.set_) | (with_reducible apply Row.far; focus (simp <;> omega)) | (with_reducible apply Row.alloc) | (with_reducible apply Row.drew) | (with_reducible apply Row.drewN) | (with_reducible apply Row.ext (Hid.out ‹Hid (Ext _ _)›))))); intro q3_0 f3_0 l3_0 R3_0; (try simp only [List.setIfInBounds_toArray, List.set_cons_zero, List.set_cons_succ] at q3_0 R3_0))
                go_wp2_with fail
                refine (HTX.out _).mono ?_
                rintro e1 w4 ⟨rfl, h4⟩
                have H4 := Lib.hid h4
                have hz4 := h4.size
                clear h4
                (try simp only [World.size_alloc] at hz4)
                (apply Row.use (w := w4) (g := w.heap.size); (focus (repeat (first | (with_reducible exact Hid.out ‹Hid (Row _ _ _)›) | (with_reducible exact Row.newAt rfl) | (with_reducible apply Row.newAt; (simp; done)) | (with_reducible apply Row.set_) | (with_reducible apply Row.far; focus (simp <;> omega)) | (with_reducible apply Row.alloc) | (with_reducible apply Row.drew) | (with_reducible apply Row.drewN) | (with_reducible apply Row.ext (Hid.out ‹Hid (Ext _ _)›))))); intro q4_0 f4_0 l4_0 R4_0; (try simp only [List.setIfInBounds_toArray, List.set_cons_zero, List.set_cons_succ] at q4_0 R4_0); apply Row.use (w := w4) (g := w3.heap.size); (focus (repeat (first | (with_reducible exact Hid.out ‹Hid (Row _ _ _)›) | (with_reducible exact Row.newAt rfl) | (with_reducible apply Row.newAt; (simp; done)) | (with_reducible apply Row.set_) | (with_reducible apply Row.far; focus (simp <;> omega)) | (with_reducible apply Row.alloc) | (with_reducible apply Row.drew) | (with_reducible apply Row.drewN) | (with_reducible apply Row.ext (Hid.out ‹Hid (Ext _ _)›))))); intro q4_1 f4_1 l4_1 R4_1; (try simp only [List.setIfInBounds_toArray, List.set_cons_zero, List.set_cons_succ] at q4_1 R4_1))
                go_wp2_with fail
                refine bodyPost_ret (v := .tuple #[.agg #[.int .i64 0, .int .i64 0, .int .i64 0, .int .i64 0, .int .i64 0, .int .i64 0], .int .i64 1]) (by simp [results, Try.results27, go_sem, *]) rfl ?_
                refine ⟨HRv.out.symm, ?_⟩
                repeat (first | (with_reducible exact Ext.refl _) | (with_reducible refine Ext.alloc ?_ _) | (with_reducible apply Ext.setC; focus (simp <;> omega)) | (with_reducible refine Ext.drew ?_) | (with_reducible refine Ext.drewN ?_ _) | (with_reducible refine Ext.trans ?_ (Hid.out ‹Hid (Ext _ _)›)))
            · rw [if_pos he] at hpar
              have heb : (e != 0) = true := by simpa using he
              have hRv : R = .returned (.tuple #[.agg (tkc tk0), .int .i64 1]) := by
                rw [← HR.out, parseE, hpar]; rfl
              have HRv := Lib.hid hRv
              have HDC := Lib.hid hdc
              clear hRv hpar hok he hdc HR
              go_wp2_with fail
              refine (HDC.out _).mono ?_
              rintro e1 w3 ⟨rfl, h3⟩
              have H3 := Lib.hid h3
              have hz3 := h3.size
              clear h3
              (apply Row.use (w := w3) (g := w.heap.size); (focus (repeat (first | (with_reducible exact Hid.out ‹Hid (Row _ _ _)›) | (with_reducible exact Row.newAt rfl) | (with_reducible apply Row.newAt; (simp; done)) | (with_reducible apply Row.set_) | (with_reducible apply Row.far; focus (simp <;> omega)) | (with_reducible apply Row.alloc) | (with_reducible apply Row.drew) | (with_reducible apply Row.drewN) | (with_reducible apply Row.ext (Hid.out ‹Hid (Ext _ _)›))))); intro q3_0 f3_0 l3_0 R3_0; (try simp only [List.setIfInBounds_toArray, List.set_cons_zero, List.set_cons_succ] at q3_0 R3_0))
              go_wp2_with fail
              refine bodyPost_ret (v := .tuple #[.agg #[.int .i64 0, .int .i64 0, .int .i64 0, .int .i64 0, .int .i64 0, .int .i64 0], .int .i64 1]) (by simp [results, Try.results27, go_sem, *]) rfl ?_
              refine ⟨HRv.out.symm, ?_⟩
              repeat (first | (with_reducible exact Ext.refl _) | (with_reducible refine Ext.alloc ?_ _) | (with_reducible apply Ext.setC; focus (simp <;> omega)) | (with_reducible refine Ext.drew ?_) | (with_reducible refine Ext.drewN ?_ _) | (with_reducible refine Ext.trans ?_ (Hid.out ‹Hid (Ext _ _)›)))
end Go.Proofs.Ytglifpoiildpfaa
