/- denied: an id comes to a keeper's own list. -/
import Derived.Test.YthollackhkiofaaDnD
namespace Go.Proofs.Ythollackhkiofaa
set_option linter.unusedSimpArgs false
set_option linter.unusedVariables false
set_option maxRecDepth 100000
open Go Go.RowKit Lb

set_option maxHeartbeats 4000000 in
theorem keeper_add (d : Dn) (s : Value) (g base : Nat) (w : World) (id : Int) (hr : Row w g #[.int .i64 d.version, s]) (ho : OwnL 3 1 inc base w s d.ids) (hg : s.ownBlock ≠ some g) (hbg : base ≤ g) (hd : ckDn d = 0) (hid : within id 1 9999 = true) :
    Calls Try.prog 78 #[.pointer (some ⟨g, 0, none⟩), .int .i64 id] w fun e w' => e = .returned (.int .i64 (denyD d id).2) ∧ Below base w w' ∧ ((denyD d id).2 = 0 → ∃ s', Row w' g #[.int .i64 (d.version + 1), s'] ∧ OwnL 3 1 inc base w' s' (insI id d.ids) ∧ s'.ownBlock ≠ some g) := by
  obtain ⟨g1, g2, g3, g4, g5⟩ := (ckDn_ok d).1 hd
  obtain ⟨ver, l⟩ := d
  simp only at *
  obtain ⟨A, c, rfl⟩ := ho.form
  have hge := ho.lt
  have hbw : base ≤ w.heap.size := Nat.le_trans hbg (Nat.le_of_lt hr.1)
  have hq := hr.2.1
  have hlt := hr.1
  have HR := Lib.hid hr
  have HO := Lib.hid ho
  have HG4 := Lib.hid g4
  have HD := Lib.hid (denyD_eq (d := ⟨ver, l⟩) hid)
  generalize denyD ⟨ver, l⟩ id = res at HD ⊢
  have hm : l.length ≤ 9223372036854775807 := by omega
  clear hr ho g4 hd hid g3
  go_enter Try.func78, Try.ntmps78
  go_wp2_with fail
  refine (Search_it l id _ _ (HO.out.rd inc_size) HG4.out (by omega)).mono ?_
  rintro e w1 ⟨rfl, h1⟩
  have HO1 := Lib.hid (HO.out.ext h1)
  have HR1 := Lib.hid (Row.ext h1 HR.out)
  have H1 := Lib.hid h1
  have hq1 := HR1.out.2.1
  have hf1 := HR1.out.2.2
  have hlt1 := HR1.out.1
  clear h1 hq
  cases hc : l.contains id with
  | true =>
    have HD2 := Lib.hid (show res = (dn0, 6) by rw [HD.out, if_pos hc])
    clear HD hc
    go_wp2_with fail
    go_ret
    refine ⟨ret_int (by rw [HD2.out]), Below.mono H1.out hbw, ?_⟩
    intro h
    rw [HD2.out] at h
    simp at h
  | false =>
    have hcn : ¬ l.contains id = true := by rw [hc]; decide
    by_cases h12 : l.length = 12
    · have HD2 := Lib.hid (show res = (dn0, 2) by rw [HD.out, if_neg hcn, if_pos (.inl h12)])
      have hli : ((l.length : Int) == 12) = true := by rw [h12]; rfl
      clear HD hc hcn
      go_wp2_with fail
      go_ret
      refine ⟨ret_int (by rw [HD2.out]), Below.mono H1.out hbw, ?_⟩
      intro h
      rw [HD2.out] at h
      simp at h
    · have hli : ((l.length : Int) == 12) = false := by
        rw [beq_eq_false_iff_ne]; omega
      by_cases h999 : ver = 999
      · have HD2 := Lib.hid (show res = (dn0, 2) by rw [HD.out, if_neg hcn, if_pos (.inr h999)])
        have hvi : (ver == 999) = true := by rw [h999]; rfl
        clear HD hc hcn
        go_wp2_with fail
        go_ret
        refine ⟨ret_int (by rw [HD2.out]), Below.mono H1.out hbw, ?_⟩
        intro h
        rw [HD2.out] at h
        simp at h
      · have HD2 := Lib.hid (show res = (⟨ver + 1, insI id l⟩, 0) by rw [HD.out, if_neg hcn, if_neg (by omega)])
        have hvi : (ver == 999) = false := by rw [beq_eq_false_iff_ne]; omega
        have hv0 : 0 ≤ ver ∧ ver ≤ 999 := by simp [within] at g1; exact g1
        clear HD hc hcn
        go_wp2_with fail
        refine (Insert_it l (l.countP (· < id)) List.countP_le_length id _ base w1 HO1.out (Nat.le_trans hbw H1.out.size) (by omega)).mono ?_
        rintro e w2 ⟨s2, rfl, ho2, hg2, hn2⟩
        rw [← insI_countP id l HG4.out] at ho2
        have hown2 : s2.ownBlock ≠ some g := by
          rcases hn2 with h | h
          · rw [h]; exact hg
          · intro he
            have := h g he
            have := H1.out.size
            omega
        obtain ⟨A2, c2, rfl⟩ := ho2.form
        have hR2 := HR1.out.grown hg2 (fun h => hg h.symm)
        have hB2 := (Below.mono H1.out hbw).grown hg2 (Nat.le_trans hbw H1.out.size) (fun k hk => (HO1.out.lt k hk).1)
        have HO2 := Lib.hid ho2
        have HR2 := Lib.hid hR2
        have HB2 := Lib.hid hB2
        have HN2 := Lib.hid hown2
        have hq2 := hR2.2.1
        have hf2 := hR2.2.2
        have hlt2 := hR2.1
        clear ho2 hR2 hB2 hown2 hg2 hn2 hq1 hf1
        go_wp2_with fail
        go_ret
        refine ⟨ret_int (by rw [HD2.out]), (HB2.out.setCell hbg _).setCell hbg _, fun _ => ?_⟩
        refine ⟨_, ?_, (HO2.out.put HN2.out _).put HN2.out _, HN2.out⟩
        have h := (HR2.out.set_ (i := 1) (u := .slice A2 (insI id l).length c2)).set_ (i := 0) (u := .int .i64 (ver + 1))
        simpa using h
end Go.Proofs.Ythollackhkiofaa
