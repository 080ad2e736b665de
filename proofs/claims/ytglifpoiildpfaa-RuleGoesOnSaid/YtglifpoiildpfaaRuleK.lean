/- leeboardlaw.at and the plain ref.CheckJudge. -/
import Derived.Test.YtglifpoiildpfaaRuleJ
namespace Go.Proofs.Ytglifpoiildpfaa
set_option linter.unusedSimpArgs false
set_option linter.unusedVariables false
open Go Go.RowKit Lb

theorem law_at (a b c d : Int) (w : World) :
    Calls Try.prog 46 #[.int .i64 a, .int .i64 b, .int .i64 c, .int .i64 d] w fun e w' => e = .returned (.agg (tpc ⟨a, b, c, d, 1⟩)) ∧ Ext w w' := by
  unfold tpc
  go_enter Try.func46, Try.ntmps46
  go_wp2
  refine bodyPost_ret (v := .agg #[.int .i64 a, .int .i64 b, .int .i64 c, .int .i64 d, .int .i64 1]) (by simp [results, Try.results46, go_sem]) rfl ⟨rfl, ?_⟩
  repeat (first | (with_reducible exact Ext.refl _) | (with_reducible refine Ext.alloc ?_ _) | (with_reducible apply Ext.setC; focus (simp <;> omega)) | (with_reducible refine Ext.drew ?_) | (with_reducible refine Ext.drewN ?_ _) | (with_reducible refine Ext.trans ?_ (Hid.out ‹Hid (Ext _ _)›)))

def run1 (e : Int) (l : List Tp) : Int := if e ≠ 0 then e else eachTap ckTap l
def run2 (a e : Int) (l : List Tp) : Int := if e ≠ 0 then e else if l.any (fun x => x.ticket != a) then 4 else 0
theorem run1_nil (e : Int) : run1 e [] = e := by
  unfold run1; split
  · rfl
  · rename_i h; simp at h; simp [eachTap, h]
theorem run2_nil (a e : Int) : run2 a e [] = e := by
  unfold run2; split
  · rfl
  · rename_i h; simp at h; simp [h]
theorem run1_stop {e : Int} (l : List Tp) (h : e ≠ 0) : run1 e l = e := by simp [run1, h]
theorem run2_stop (a : Int) {e : Int} (l : List Tp) (h : e ≠ 0) : run2 a e l = e := by simp [run2, h]
theorem run1_cons (x : Tp) (l : List Tp) : run1 0 (x :: l) = run1 (ckTap x) l := by
  simp [run1, eachTap]
theorem run2_cons (a : Int) (x : Tp) (l : List Tp) : run2 a 0 (x :: l) = run2 a (if (x.ticket != a) = true then 4 else 0) l := by
  cases h : (x.ticket != a) <;> simp [run2, h]
theorem ckJudge_run (t : Tk) (was : List Tp) (rides : Int) (p : Tp) :
    ckJudge t was rides p = run2 t.id (if (run1 (if ckTicket t ≠ 0 then ckTicket t else if ckTap p ≠ 0 then ckTap p else if within rides 0 60 = false then 3 else 0) was == 0) = true ∧ (p.ticket != t.id) = true then 4
      else run1 (if ckTicket t ≠ 0 then ckTicket t else if ckTap p ≠ 0 then ckTap p else if within rides 0 60 = false then 3 else 0) was) was := by
  unfold ckJudge run1 run2
  by_cases a1 : ckTicket t = 0 <;> by_cases a2 : ckTap p = 0 <;> cases a3 : within rides 0 60 <;> by_cases a4 : eachTap ckTap was = 0 <;> by_cases a5 : p.ticket = t.id <;> cases a6 : (was.any fun x => x.ticket != t.id) <;> simp [a1, a2, a3, a4, a5, a6]

set_option maxHeartbeats 4000000 in
theorem ref_CheckJudge (t : Tk) (was : List Tp) (rides : Int) (p : Tp) (v : Value) (w : World) (hr : RdL 5 tpc w v was) :
    Calls Try.prog 21 #[.agg (tkc t), v, .int .i64 rides, .agg (tpc p)] w fun e w' => e = .returned (.int .i64 (ckJudge t was rides p)) ∧ Ext w w' := by
  have hc1 := fun w => ref_CheckTicket t w
  have hc2 := fun w => ref_CheckTap p w
  have hw3 := fun w => ref_between rides 0 60 w
  have hcx := fun x w => ref_CheckTap x w
  have hj := ckJudge_run t was rides p
  generalize hres : ckJudge t was rides p = res at hj ⊢
  clear hres
  generalize hE : (if ckTicket t ≠ 0 then ckTicket t else if ckTap p ≠ 0 then ckTap p else if within rides 0 60 = false then 3 else 0) = e1 at hj
  generalize hR : run1 e1 was = r1 at hj
  have HJ := Lib.hid hj
  have HRd := Lib.hid hr
  have HCX := Lib.hid hcx
  have HR := Lib.hid hR
  clear hj hr hcx hR
  obtain ⟨v', rfl⟩ : ∃ v', v' = v := ⟨v, rfl⟩
  obtain ⟨A, c, rfl, hm1, hm2, hm3⟩ := HRd.out
  have hm : was.length ≤ 9223372036854775807 := by unfold maxLen at hm2; omega
  have H3 := Lib.hid hm3
  clear hm1 hm2 hm3
  obtain ⟨a, b, c1, d, x, f⟩ := t
  obtain ⟨pt, pg, ps, pti, pz⟩ := p
  simp only at HJ
  simp only [tkc] at hc1 ⊢
  simp only [tpc] at hc2 ⊢
  generalize ckTicket ⟨a, b, c1, d, x, f⟩ = u1 at *
  generalize ckTap ⟨pt, pg, ps, pti, pz⟩ = u2 at *
  generalize within rides 0 60 = u3 at *
  have HC1 := Lib.hid hc1
  have HC2 := Lib.hid hc2
  have HW3 := Lib.hid hw3
  clear hc1 hc2 hw3
  have hfront : (u1 == 0) = false ∨ u1 = 0 ∧ (u2 == 0) = false ∨ u1 = 0 ∧ u2 = 0 ∧ u3 = false ∨ u1 = 0 ∧ u2 = 0 ∧ u3 = true := by
    cases u3 <;> by_cases h1 : u1 = 0 <;> by_cases h2 : u2 = 0 <;> simp [h1, h2]
  rcases hfront with h1 | ⟨rfl, h2⟩ | ⟨rfl, rfl, rfl⟩ | ⟨rfl, rfl, rfl⟩
  · obtain rfl : u1 = e1 := by rw [← hE, if_pos (by simpa using h1)]
    clear hE HC2 HW3
    go_enter Try.func21, Try.ntmps21
    go_wp2_with fail
    (refine (HC1.out _).mono ?_; rintro e w1 ⟨rfl, h1⟩; have H1 := Lib.hid h1; have hz1 := h1.size; clear h1; (try simp only [World.size_alloc, size_set, World.heap_drewN, size_drew] at hz1); apply Row.use (w := w1) (g := w.heap.size); (focus (repeat (first | (with_reducible exact Hid.out ‹Hid (Row _ _ _)›) | (with_reducible exact Row.newAt rfl) | (with_reducible apply Row.newAt; (simp; done)) | (with_reducible apply Row.set_) | (with_reducible apply Row.far; focus (simp <;> omega)) | (with_reducible apply Row.alloc) | (with_reducible apply Row.drew) | (with_reducible apply Row.drewN) | (with_reducible apply Row.ext (Hid.out ‹Hid (Ext _ _)›))))); intro q1_0 f1_0 l1_0 R1_0; (try simp only [List.setIfInBounds_toArray, List.set_cons_zero, List.set_cons_succ] at q1_0 R1_0); apply Row.use (w := w1) (g := w.heap.size + 1); (focus (repeat (first | (with_reducible exact Hid.out ‹Hid (Row _ _ _)›) | (with_reducible exact Row.newAt rfl) | (with_reducible apply Row.newAt; (simp; done)) | (with_reducible apply Row.set_) | (with_reducible apply Row.far; focus (simp <;> omega)) | (with_reducible apply Row.alloc) | (with_reducible apply Row.drew) | (with_reducible apply Row.drewN) | (with_reducible apply Row.ext (Hid.out ‹Hid (Ext _ _)›))))); intro q1_1 f1_1 l1_1 R1_1; (try simp only [List.setIfInBounds_toArray, List.set_cons_zero, List.set_cons_succ] at q1_1 R1_1))
    go_wp2_with fail
    go_loopg [9, 10] was.length (fun gg s9 s10 wr => ∃ (k : Nat) (e : Int), k ≤ was.length ∧ was.length - k ≤ gg ∧ s9 = .int .i64 e ∧ s10 = .int .i64 k ∧ Aside (run1 e (was.drop k) = r1) ∧ Aside (Ext w wr ∧ Row wr w.heap.size #[.int .i64 a, .int .i64 b, .int .i64 c1, .int .i64 d, .int .i64 x, .int .i64 f] ∧ Row wr (w.heap.size + 1) #[.int .i64 pt, .int .i64 pg, .int .i64 ps, .int .i64 pti, .int .i64 pz]))
    case atStart => exact ⟨0, _, Nat.zero_le _, by omega, rfl, rfl, HR.out, by repeat (first | (with_reducible exact Ext.refl _) | (with_reducible refine Ext.alloc ?_ _) | (with_reducible apply Ext.setC; focus (simp <;> omega)) | (with_reducible refine Ext.drew ?_) | (with_reducible refine Ext.drewN ?_ _) | (with_reducible refine Ext.trans ?_ (Hid.out ‹Hid (Ext _ _)›))), R1_0.out, R1_1.out⟩
    case round =>
      clear HR
      obtain ⟨k, e, hk, hg, rfl, rfl, HV, HB⟩ := hrel
      have hbnd := HB.out.2.2.1
      by_cases hgo : e = 0 ∧ k < was.length
      · obtain ⟨rfl, hlt⟩ := hgo
        obtain ⟨b', o, rfl, hb, hc⟩ := H3.out (by omega)
        have hbr : b' < wr.heap.size := Nat.lt_of_lt_of_le hb HB.out.1.size
        have hcr : ∀ i u, (tpc was[k]!)[i]? = some u → wr.cell? ⟨b', o + k * 5 + i, none⟩ = some u := fun i u hu => (HB.out.1.cells b' _ hb).trans (hc k hlt i u hu)
        clear hc
        have hkk : was[k]! = was[k] := by simp [hlt]
        rw [hkk] at hcr
        have hdr : run1 (ckTap was[k]) (was.drop (k + 1)) = r1 := by
          rw [← HV.out, List.drop_eq_getElem_cons hlt, run1_cons]
        have hlt' : (k : Int) < (was.length : Int) := by omega
        generalize was[k] = x' at hcr hdr
        have HX := Lib.hid hdr
        clear hdr hkk
        have hcall := fun w => HCX.out x' w
        obtain ⟨x0, x1, x2, x3, x4⟩ := x'
        have c0 : wr.cell? ⟨b', o + k * 5, none⟩ = some (.int .i64 x0) := hcr 0 _ rfl
        have c1 : wr.cell? ⟨b', o + k * 5 + 1, none⟩ = some (.int .i64 x1) := hcr 1 _ rfl
        have c2 : wr.cell? ⟨b', o + k * 5 + 2, none⟩ = some (.int .i64 x2) := hcr 2 _ rfl
        have c3 : wr.cell? ⟨b', o + k * 5 + 3, none⟩ = some (.int .i64 x3) := hcr 3 _ rfl
        have c4 : wr.cell? ⟨b', o + k * 5 + 4, none⟩ = some (.int .i64 x4) := hcr 4 _ rfl
        clear hcr
        unfold tpc at hcall
        generalize ckTap ⟨x0, x1, x2, x3, x4⟩ = q at hcall HX
        have HC := Lib.hid hcall
        clear hcall
        go_wp2_with (go_at_call 25; refine (HC.out _).mono ?_; rintro e w1 ⟨rfl, h1⟩; have H1 := Lib.hid h1; clear h1)
        go_roundg (was.length - (k + 1))
        case measure => omega
        case rel => exact ⟨k + 1, _, by omega, by omega, rfl, by go_num, HX.out, HB.out.1.trans H1.out, HB.out.2.1.ext H1.out, HB.out.2.2.ext H1.out⟩
      · have he : e = r1 := by
          by_cases e0 : e = 0
          · have hkl : k = was.length := by omega
            have := HV.out
            rwa [hkl, List.drop_length, run1_nil] at this
          · have := HV.out
            rwa [run1_stop _ e0] at this
        subst he
        clear HV
        have hstop : ((k : Int) < (was.length : Int) ∧ (e == 0) = false) ∨ ¬ (k : Int) < (was.length : Int) := by
          by_cases hh : (k : Int) < (was.length : Int)
          · exact .inl ⟨hh, by simp; intro h0; exact hgo ⟨h0, by omega⟩⟩
          · exact .inr hh
        have hstop2 : ((k : Int) < (was.length : Int) ∧ (e == 0) = false ∧ (if (e == 0) = true ∧ (pt != a) = true then 4 else e) = e) ∨ (¬ (k : Int) < (was.length : Int) ∧ (e == 0) = false ∧ (if (e == 0) = true ∧ (pt != a) = true then 4 else e) = e) ∨ (¬ (k : Int) < (was.length : Int) ∧ e = 0 ∧ (pt != a) = false ∧ (if (e == 0) = true ∧ (pt != a) = true then 4 else e) = 0) ∨ (¬ (k : Int) < (was.length : Int) ∧ e = 0 ∧ (pt != a) = true ∧ (if (e == 0) = true ∧ (pt != a) = true then 4 else e) = 4) := by
          cases h5 : (pt != a) <;> by_cases h4 : e = 0 <;> simp [h4] at hstop ⊢ <;> omega
        clear hgo hstop
        obtain ⟨HX, hr0, hr1⟩ := HB.out
        apply Row.use hr0; intro q1 f1 l1 R1
        apply Row.use hr1; intro q2 f2 l2 R2
        clear hr0 hr1 HB
        have hX := HX.size
        have HE0 := Lib.hid HX
        clear HX
        rcases hstop2 with ⟨h1', h2', hI⟩ | ⟨h1', h2', hI⟩ | ⟨h1', rfl, h2', hI⟩ | ⟨h1', rfl, h2', hI⟩
        all_goals
          rw [hI] at HJ
          clear hI
          go_wp2
          go_loopg [9, 11] was.length (fun gg s9 s11 w2 => ∃ (k : Nat) (e : Int), k ≤ was.length ∧ was.length - k ≤ gg ∧ s9 = .int .i64 e ∧ s11 = .int .i64 k ∧ Aside (run2 a e (was.drop k) = res) ∧ Aside (Ext w w2 ∧ Row w2 w.heap.size #[.int .i64 a, .int .i64 b, .int .i64 c1, .int .i64 d, .int .i64 x, .int .i64 f]))
          case atStart => exact ⟨0, _, Nat.zero_le _, by omega, rfl, rfl, HJ.out.symm, by repeat (first | (with_reducible exact Ext.refl _) | (with_reducible refine Ext.alloc ?_ _) | (with_reducible apply Ext.setC; focus (simp <;> omega)) | (with_reducible refine Ext.drew ?_) | (with_reducible refine Ext.drewN ?_ _) | (with_reducible refine Ext.trans ?_ (Hid.out ‹Hid (Ext _ _)›))), R1.out⟩
          case round =>
            clear HJ h1' h2' q1 f1 l1 R1 q2 f2 l2 R2 HE0 hX hbnd hk hg
            obtain ⟨k, e, hk, hg, rfl, rfl, HV, HB⟩ := hrel
            by_cases hgo : e = 0 ∧ k < was.length
            · obtain ⟨rfl, hlt⟩ := hgo
              obtain ⟨HE, hr0⟩ := HB.out
              apply Row.use hr0; intro q1 f1 l1 R1
              obtain ⟨b', o, rfl, hb, hc⟩ := H3.out (by omega)
              have hbr : b' < wr.heap.size := Nat.lt_of_lt_of_le hb HE.size
              have hcr : ∀ i u, (tpc was[k]!)[i]? = some u → wr.cell? ⟨b', o + k * 5 + i, none⟩ = some u := fun i u hu => (HE.cells b' _ hb).trans (hc k hlt i u hu)
              clear hc hr0 HE
              have hkk : was[k]! = was[k] := by simp [hlt]
              rw [hkk] at hcr
              have hdr : run2 a (if (was[k].ticket != a) = true then 4 else 0) (was.drop (k + 1)) = res := by
                rw [← HV.out, List.drop_eq_getElem_cons hlt, run2_cons]
              have hlt' : (k : Int) < (was.length : Int) := by omega
              have hk0 : (0 : Int) ≤ (k : Int) := by omega
              generalize was[k] = x' at hcr hdr
              obtain ⟨x0, x1, x2, x3, x4⟩ := x'
              have c0 : wr.cell? ⟨b', o + k * 5, none⟩ = some (.int .i64 x0) := hcr 0 _ rfl
              clear hcr hkk
              simp only at hdr
              cases hx : (x0 != a)
              all_goals
                (first | rw [if_pos hx] at hdr | rw [if_neg (by rw [hx]; decide)] at hdr)
                have HX := Lib.hid hdr
                clear hdr
                go_wp2_with fail
                go_quiet (fail)
                go_wp2_with fail
                go_roundg (was.length - (k + 1))
                case measure => omega
                case rel => exact ⟨k + 1, _, by omega, by omega, rfl, by go_num, HX.out, HB.out.1.drewN _, HB.out.2.drewN⟩
            · have he : e = res := by
                by_cases e0 : e = 0
                · have hkl : k = was.length := by omega
                  have := HV.out
                  rwa [hkl, List.drop_length, run2_nil] at this
                · have := HV.out
                  rwa [run2_stop _ _ e0] at this
              subst he
              clear HV
              have hstop : ((k : Int) < (was.length : Int) ∧ (e == 0) = false) ∨ ¬ (k : Int) < (was.length : Int) := by
                by_cases hh : (k : Int) < (was.length : Int)
                · exact .inl ⟨hh, by simp; intro h0; exact hgo ⟨h0, by omega⟩⟩
                · exact .inr hh
              clear hgo
              rcases hstop with ⟨h1', h2'⟩ | h1'
              all_goals
                go_wp2
                go_ret
                exact ⟨rfl, HB.out.1⟩
  · obtain rfl : u2 = e1 := by rw [← hE, if_neg (by simp), if_pos (by simpa using h2)]
    clear hE HW3
    go_enter Try.func21, Try.ntmps21
    go_wp2_with fail
    (refine (HC1.out _).mono ?_; rintro e w1 ⟨rfl, h1⟩; have H1 := Lib.hid h1; have hz1 := h1.size; clear h1; (try simp only [World.size_alloc, size_set, World.heap_drewN, size_drew] at hz1); apply Row.use (w := w1) (g := w.heap.size); (focus (repeat (first | (with_reducible exact Hid.out ‹Hid (Row _ _ _)›) | (with_reducible exact Row.newAt rfl) | (with_reducible apply Row.newAt; (simp; done)) | (with_reducible apply Row.set_) | (with_reducible apply Row.far; focus (simp <;> omega)) | (with_reducible apply Row.alloc) | (with_reducible apply Row.drew) | (with_reducible apply Row.drewN) | (with_reducible apply Row.ext (Hid.out ‹Hid (Ext _ _)›))))); intro q1_0 f1_0 l1_0 R1_0; (try simp only [List.setIfInBounds_toArray, List.set_cons_zero, List.set_cons_succ] at q1_0 R1_0); apply Row.use (w := w1) (g := w.heap.size + 1); (focus (repeat (first | (with_reducible exact Hid.out ‹Hid (Row _ _ _)›) | (with_reducible exact Row.newAt rfl) | (with_reducible apply Row.newAt; (simp; done)) | (with_reducible apply Row.set_) | (with_reducible apply Row.far; focus (simp <;> omega)) | (with_reducible apply Row.alloc) | (with_reducible apply Row.drew) | (with_reducible apply Row.drewN) | (with_reducible apply Row.ext (Hid.out ‹Hid (Ext _ _)›))))); intro q1_1 f1_1 l1_1 R1_1; (try simp only [List.setIfInBounds_toArray, List.set_cons_zero, List.set_cons_succ] at q1_1 R1_1))
    go_wp2_with fail
    (refine (HC2.out _).mono ?_; rintro e w2 ⟨rfl, h2⟩; have H2 := Lib.hid h2; have hz2 := h2.size; clear h2; (try simp only [World.size_alloc, size_set, World.heap_drewN, size_drew] at hz2); apply Row.use (w := w2) (g := w.heap.size); (focus (repeat (first | (with_reducible exact Hid.out ‹Hid (Row _ _ _)›) | (with_reducible exact Row.newAt rfl) | (with_reducible apply Row.newAt; (simp; done)) | (with_reducible apply Row.set_) | (with_reducible apply Row.far; focus (simp <;> omega)) | (with_reducible apply Row.alloc) | (with_reducible apply Row.drew) | (with_reducible apply Row.drewN) | (with_reducible apply Row.ext (Hid.out ‹Hid (Ext _ _)›))))); intro q2_0 f2_0 l2_0 R2_0; (try simp only [List.setIfInBounds_toArray, List.set_cons_zero, List.set_cons_succ] at q2_0 R2_0); apply Row.use (w := w2) (g := w.heap.size + 1); (focus (repeat (first | (with_reducible exact Hid.out ‹Hid (Row _ _ _)›) | (with_reducible exact Row.newAt rfl) | (with_reducible apply Row.newAt; (simp; done)) | (with_reducible apply Row.set_) | (with_reducible apply Row.far; focus (simp <;> omega)) | (with_reducible apply Row.alloc) | (with_reducible apply Row.drew) | (with_reducible apply Row.drewN) | (with_reducible apply Row.ext (Hid.out ‹Hid (Ext _ _)›))))); intro q2_1 f2_1 l2_1 R2_1; (try simp only [List.setIfInBounds_toArray, List.set_cons_zero, List.set_cons_succ] at q2_1 R2_1))
    go_wp2_with fail
    go_loopg [9, 10] was.length (fun gg s9 s10 wr => ∃ (k : Nat) (e : Int), k ≤ was.length ∧ was.length - k ≤ gg ∧ s9 = .int .i64 e ∧ s10 = .int .i64 k ∧ Aside (run1 e (was.drop k) = r1) ∧ Aside (Ext w wr ∧ Row wr w.heap.size #[.int .i64 a, .int .i64 b, .int .i64 c1, .int .i64 d, .int .i64 x, .int .i64 f] ∧ Row wr (w.heap.size + 1) #[.int .i64 pt, .int .i64 pg, .int .i64 ps, .int .i64 pti, .int .i64 pz]))
    case atStart => exact ⟨0, _, Nat.zero_le _, by omega, rfl, rfl, HR.out, by repeat (first | (with_reducible exact Ext.refl _) | (with_reducible refine Ext.alloc ?_ _) | (with_reducible apply Ext.setC; focus (simp <;> omega)) | (with_reducible refine Ext.drew ?_) | (with_reducible refine Ext.drewN ?_ _) | (with_reducible refine Ext.trans ?_ (Hid.out ‹Hid (Ext _ _)›))), R2_0.out, R2_1.out⟩
    case round =>
      clear HR
      obtain ⟨k, e, hk, hg, rfl, rfl, HV, HB⟩ := hrel
      have hbnd := HB.out.2.2.1
      by_cases hgo : e = 0 ∧ k < was.length
      · obtain ⟨rfl, hlt⟩ := hgo
        obtain ⟨b', o, rfl, hb, hc⟩ := H3.out (by omega)
        have hbr : b' < wr.heap.size := Nat.lt_of_lt_of_le hb HB.out.1.size
        have hcr : ∀ i u, (tpc was[k]!)[i]? = some u → wr.cell? ⟨b', o + k * 5 + i, none⟩ = some u := fun i u hu => (HB.out.1.cells b' _ hb).trans (hc k hlt i u hu)
        clear hc
        have hkk : was[k]! = was[k] := by simp [hlt]
        rw [hkk] at hcr
        have hdr : run1 (ckTap was[k]) (was.drop (k + 1)) = r1 := by
          rw [← HV.out, List.drop_eq_getElem_cons hlt, run1_cons]
        have hlt' : (k : Int) < (was.length : Int) := by omega
        generalize was[k] = x' at hcr hdr
        have HX := Lib.hid hdr
        clear hdr hkk
        have hcall := fun w => HCX.out x' w
        obtain ⟨x0, x1, x2, x3, x4⟩ := x'
        have c0 : wr.cell? ⟨b', o + k * 5, none⟩ = some (.int .i64 x0) := hcr 0 _ rfl
        have c1 : wr.cell? ⟨b', o + k * 5 + 1, none⟩ = some (.int .i64 x1) := hcr 1 _ rfl
        have c2 : wr.cell? ⟨b', o + k * 5 + 2, none⟩ = some (.int .i64 x2) := hcr 2 _ rfl
        have c3 : wr.cell? ⟨b', o + k * 5 + 3, none⟩ = some (.int .i64 x3) := hcr 3 _ rfl
        have c4 : wr.cell? ⟨b', o + k * 5 + 4, none⟩ = some (.int .i64 x4) := hcr 4 _ rfl
        clear hcr
        unfold tpc at hcall
        generalize ckTap ⟨x0, x1, x2, x3, x4⟩ = q at hcall HX
        have HC := Lib.hid hcall
        clear hcall
        go_wp2_with (go_at_call 25; refine (HC.out _).mono ?_; rintro e w1 ⟨rfl, h1⟩; have H1 := Lib.hid h1; clear h1)
        go_roundg (was.length - (k + 1))
        case measure => omega
        case rel => exact ⟨k + 1, _, by omega, by omega, rfl, by go_num, HX.out, HB.out.1.trans H1.out, HB.out.2.1.ext H1.out, HB.out.2.2.ext H1.out⟩
      · have he : e = r1 := by
          by_cases e0 : e = 0
          · have hkl : k = was.length := by omega
            have := HV.out
            rwa [hkl, List.drop_length, run1_nil] at this
          · have := HV.out
            rwa [run1_stop _ e0] at this
        subst he
        clear HV
        have hstop : ((k : Int) < (was.length : Int) ∧ (e == 0) = false) ∨ ¬ (k : Int) < (was.length : Int) := by
          by_cases hh : (k : Int) < (was.length : Int)
          · exact .inl ⟨hh, by simp; intro h0; exact hgo ⟨h0, by omega⟩⟩
          · exact .inr hh
        have hstop2 : ((k : Int) < (was.length : Int) ∧ (e == 0) = false ∧ (if (e == 0) = true ∧ (pt != a) = true then 4 else e) = e) ∨ (¬ (k : Int) < (was.length : Int) ∧ (e == 0) = false ∧ (if (e == 0) = true ∧ (pt != a) = true then 4 else e) = e) ∨ (¬ (k : Int) < (was.length : Int) ∧ e = 0 ∧ (pt != a) = false ∧ (if (e == 0) = true ∧ (pt != a) = true then 4 else e) = 0) ∨ (¬ (k : Int) < (was.length : Int) ∧ e = 0 ∧ (pt != a) = true ∧ (if (e == 0) = true ∧ (pt != a) = true then 4 else e) = 4) := by
          cases h5 : (pt != a) <;> by_cases h4 : e = 0 <;> simp [h4] at hstop ⊢ <;> omega
        clear hgo hstop
        obtain ⟨HX, hr0, hr1⟩ := HB.out
        apply Row.use hr0; intro q1 f1 l1 R1
        apply Row.use hr1; intro q2 f2 l2 R2
        clear hr0 hr1 HB
        have hX := HX.size
        have HE0 := Lib.hid HX
        clear HX
        rcases hstop2 with ⟨h1', h2', hI⟩ | ⟨h1', h2', hI⟩ | ⟨h1', rfl, h2', hI⟩ | ⟨h1', rfl, h2', hI⟩
        all_goals
          rw [hI] at HJ
          clear hI
          go_wp2
          go_loopg [9, 11] was.length (fun gg s9 s11 w2 => ∃ (k : Nat) (e : Int), k ≤ was.length ∧ was.length - k ≤ gg ∧ s9 = .int .i64 e ∧ s11 = .int .i64 k ∧ Aside (run2 a e (was.drop k) = res) ∧ Aside (Ext w w2 ∧ Row w2 w.heap.size #[.int .i64 a, .int .i64 b, .int .i64 c1, .int .i64 d, .int .i64 x, .int .i64 f]))
          case atStart => exact ⟨0, _, Nat.zero_le _, by omega, rfl, rfl, HJ.out.symm, by repeat (first | (with_reducible exact Ext.refl _) | (with_reducible refine Ext.alloc ?_ _) | (with_reducible apply Ext.setC; focus (simp <;> omega)) | (with_reducible refine Ext.drew ?_) | (with_reducible refine Ext.drewN ?_ _) | (with_reducible refine Ext.trans ?_ (Hid.out ‹Hid (Ext _ _)›))), R1.out⟩
          case round =>
            clear HJ h1' h2' q1 f1 l1 R1 q2 f2 l2 R2 HE0 hX hbnd hk hg
            obtain ⟨k, e, hk, hg, rfl, rfl, HV, HB⟩ := hrel
            by_cases hgo : e = 0 ∧ k < was.length
            · obtain ⟨rfl, hlt⟩ := hgo
              obtain ⟨HE, hr0⟩ := HB.out
              apply Row.use hr0; intro q1 f1 l1 R1
              obtain ⟨b', o, rfl, hb, hc⟩ := H3.out (by omega)
              have hbr : b' < wr.heap.size := Nat.lt_of_lt_of_le hb HE.size
              have hcr : ∀ i u, (tpc was[k]!)[i]? = some u → wr.cell? ⟨b', o + k * 5 + i, none⟩ = some u := fun i u hu => (HE.cells b' _ hb).trans (hc k hlt i u hu)
              clear hc hr0 HE
              have hkk : was[k]! = was[k] := by simp [hlt]
              rw [hkk] at hcr
              have hdr : run2 a (if (was[k].ticket != a) = true then 4 else 0) (was.drop (k + 1)) = res := by
                rw [← HV.out, List.drop_eq_getElem_cons hlt, run2_cons]
              have hlt' : (k : Int) < (was.length : Int) := by omega
              have hk0 : (0 : Int) ≤ (k : Int) := by omega
              generalize was[k] = x' at hcr hdr
              obtain ⟨x0, x1, x2, x3, x4⟩ := x'
              have c0 : wr.cell? ⟨b', o + k * 5, none⟩ = some (.int .i64 x0) := hcr 0 _ rfl
              clear hcr hkk
              simp only at hdr
              cases hx : (x0 != a)
              all_goals
                (first | rw [if_pos hx] at hdr | rw [if_neg (by rw [hx]; decide)] at hdr)
                have HX := Lib.hid hdr
                clear hdr
                go_wp2_with fail
                go_quiet (fail)
                go_wp2_with fail
                go_roundg (was.length - (k + 1))
                case measure => omega
                case rel => exact ⟨k + 1, _, by omega, by omega, rfl, by go_num, HX.out, HB.out.1.drewN _, HB.out.2.drewN⟩
            · have he : e = res := by
                by_cases e0 : e = 0
                · have hkl : k = was.length := by omega
                  have := HV.out
                  rwa [hkl, List.drop_length, run2_nil] at this
                · have := HV.out
                  rwa [run2_stop _ _ e0] at this
              subst he
              clear HV
              have hstop : ((k : Int) < (was.length : Int) ∧ (e == 0) = false) ∨ ¬ (k : Int) < (was.length : Int) := by
                by_cases hh : (k : Int) < (was.length : Int)
                · exact .inl ⟨hh, by simp; intro h0; exact hgo ⟨h0, by omega⟩⟩
                · exact .inr hh
              clear hgo
              rcases hstop with ⟨h1', h2'⟩ | h1'
              all_goals
                go_wp2
                go_ret
                exact ⟨rfl, HB.out.1⟩
  · obtain rfl : 3 = e1 := by rw [← hE]; simp
    clear hE
    go_enter Try.func21, Try.ntmps21
    go_wp2_with fail
    (refine (HC1.out _).mono ?_; rintro e w1 ⟨rfl, h1⟩; have H1 := Lib.hid h1; have hz1 := h1.size; clear h1; (try simp only [World.size_alloc, size_set, World.heap_drewN, size_drew] at hz1); apply Row.use (w := w1) (g := w.heap.size); (focus (repeat (first | (with_reducible exact Hid.out ‹Hid (Row _ _ _)›) | (with_reducible exact Row.newAt rfl) | (with_reducible apply Row.newAt; (simp; done)) | (with_reducible apply Row.set_) | (with_reducible apply Row.far; focus (simp <;> omega)) | (with_reducible apply Row.alloc) | (with_reducible apply Row.drew) | (with_reducible apply Row.drewN) | (with_reducible apply Row.ext (Hid.out ‹Hid (Ext _ _)›))))); intro q1_0 f1_0 l1_0 R1_0; (try simp only [List.setIfInBounds_toArray, List.set_cons_zero, List.set_cons_succ] at q1_0 R1_0); apply Row.use (w := w1) (g := w.heap.size + 1); (focus (repeat (first | (with_reducible exact Hid.out ‹Hid (Row _ _ _)›) | (with_reducible exact Row.newAt rfl) | (with_reducible apply Row.newAt; (simp; done)) | (with_reducible apply Row.set_) | (with_reducible apply Row.far; focus (simp <;> omega)) | (with_reducible apply Row.alloc) | (with_reducible apply Row.drew) | (with_reducible apply Row.drewN) | (with_reducible apply Row.ext (Hid.out ‹Hid (Ext _ _)›))))); intro q1_1 f1_1 l1_1 R1_1; (try simp only [List.setIfInBounds_toArray, List.set_cons_zero, List.set_cons_succ] at q1_1 R1_1))
    go_wp2_with fail
    (refine (HC2.out _).mono ?_; rintro e w2 ⟨rfl, h2⟩; have H2 := Lib.hid h2; have hz2 := h2.size; clear h2; (try simp only [World.size_alloc, size_set, World.heap_drewN, size_drew] at hz2); apply Row.use (w := w2) (g := w.heap.size); (focus (repeat (first | (with_reducible exact Hid.out ‹Hid (Row _ _ _)›) | (with_reducible exact Row.newAt rfl) | (with_reducible apply Row.newAt; (simp; done)) | (with_reducible apply Row.set_) | (with_reducible apply Row.far; focus (simp <;> omega)) | (with_reducible apply Row.alloc) | (with_reducible apply Row.drew) | (with_reducible apply Row.drewN) | (with_reducible apply Row.ext (Hid.out ‹Hid (Ext _ _)›))))); intro q2_0 f2_0 l2_0 R2_0; (try simp only [List.setIfInBounds_toArray, List.set_cons_zero, List.set_cons_succ] at q2_0 R2_0); apply Row.use (w := w2) (g := w.heap.size + 1); (focus (repeat (first | (with_reducible exact Hid.out ‹Hid (Row _ _ _)›) | (with_reducible exact Row.newAt rfl) | (with_reducible apply Row.newAt; (simp; done)) | (with_reducible apply Row.set_) | (with_reducible apply Row.far; focus (simp <;> omega)) | (with_reducible apply Row.alloc) | (with_reducible apply Row.drew) | (with_reducible apply Row.drewN) | (with_reducible apply Row.ext (Hid.out ‹Hid (Ext _ _)›))))); intro q2_1 f2_1 l2_1 R2_1; (try simp only [List.setIfInBounds_toArray, List.set_cons_zero, List.set_cons_succ] at q2_1 R2_1))
    go_wp2_with fail
    refine (HW3.out _).mono ?_
    rintro e wz ⟨rfl, rfl⟩
    go_wp2_with fail
    go_loopg [9, 10] was.length (fun gg s9 s10 wr => ∃ (k : Nat) (e : Int), k ≤ was.length ∧ was.length - k ≤ gg ∧ s9 = .int .i64 e ∧ s10 = .int .i64 k ∧ Aside (run1 e (was.drop k) = r1) ∧ Aside (Ext w wr ∧ Row wr w.heap.size #[.int .i64 a, .int .i64 b, .int .i64 c1, .int .i64 d, .int .i64 x, .int .i64 f] ∧ Row wr (w.heap.size + 1) #[.int .i64 pt, .int .i64 pg, .int .i64 ps, .int .i64 pti, .int .i64 pz]))
    case atStart => exact ⟨0, _, Nat.zero_le _, by omega, rfl, rfl, HR.out, by repeat (first | (with_reducible exact Ext.refl _) | (with_reducible refine Ext.alloc ?_ _) | (with_reducible apply Ext.setC; focus (simp <;> omega)) | (with_reducible refine Ext.drew ?_) | (with_reducible refine Ext.drewN ?_ _) | (with_reducible refine Ext.trans ?_ (Hid.out ‹Hid (Ext _ _)›))), R2_0.out, R2_1.out⟩
    case round =>
      clear HR
      obtain ⟨k, e, hk, hg, rfl, rfl, HV, HB⟩ := hrel
      have hbnd := HB.out.2.2.1
      by_cases hgo : e = 0 ∧ k < was.length
      · obtain ⟨rfl, hlt⟩ := hgo
        obtain ⟨b', o, rfl, hb, hc⟩ := H3.out (by omega)
        have hbr : b' < wr.heap.size := Nat.lt_of_lt_of_le hb HB.out.1.size
        have hcr : ∀ i u, (tpc was[k]!)[i]? = some u → wr.cell? ⟨b', o + k * 5 + i, none⟩ = some u := fun i u hu => (HB.out.1.cells b' _ hb).trans (hc k hlt i u hu)
        clear hc
        have hkk : was[k]! = was[k] := by simp [hlt]
        rw [hkk] at hcr
        have hdr : run1 (ckTap was[k]) (was.drop (k + 1)) = r1 := by
          rw [← HV.out, List.drop_eq_getElem_cons hlt, run1_cons]
        have hlt' : (k : Int) < (was.length : Int) := by omega
        generalize was[k] = x' at hcr hdr
        have HX := Lib.hid hdr
        clear hdr hkk
        have hcall := fun w => HCX.out x' w
        obtain ⟨x0, x1, x2, x3, x4⟩ := x'
        have c0 : wr.cell? ⟨b', o + k * 5, none⟩ = some (.int .i64 x0) := hcr 0 _ rfl
        have c1 : wr.cell? ⟨b', o + k * 5 + 1, none⟩ = some (.int .i64 x1) := hcr 1 _ rfl
        have c2 : wr.cell? ⟨b', o + k * 5 + 2, none⟩ = some (.int .i64 x2) := hcr 2 _ rfl
        have c3 : wr.cell? ⟨b', o + k * 5 + 3, none⟩ = some (.int .i64 x3) := hcr 3 _ rfl
        have c4 : wr.cell? ⟨b', o + k * 5 + 4, none⟩ = some (.int .i64 x4) := hcr 4 _ rfl
        clear hcr
        unfold tpc at hcall
        generalize ckTap ⟨x0, x1, x2, x3, x4⟩ = q at hcall HX
        have HC := Lib.hid hcall
        clear hcall
        go_wp2_with (go_at_call 25; refine (HC.out _).mono ?_; rintro e w1 ⟨rfl, h1⟩; have H1 := Lib.hid h1; clear h1)
        go_roundg (was.length - (k + 1))
        case measure => omega
        case rel => exact ⟨k + 1, _, by omega, by omega, rfl, by go_num, HX.out, HB.out.1.trans H1.out, HB.out.2.1.ext H1.out, HB.out.2.2.ext H1.out⟩
      · have he : e = r1 := by
          by_cases e0 : e = 0
          · have hkl : k = was.length := by omega
            have := HV.out
            rwa [hkl, List.drop_length, run1_nil] at this
          · have := HV.out
            rwa [run1_stop _ e0] at this
        subst he
        clear HV
        have hstop : ((k : Int) < (was.length : Int) ∧ (e == 0) = false) ∨ ¬ (k : Int) < (was.length : Int) := by
          by_cases hh : (k : Int) < (was.length : Int)
          · exact .inl ⟨hh, by simp; intro h0; exact hgo ⟨h0, by omega⟩⟩
          · exact .inr hh
        have hstop2 : ((k : Int) < (was.length : Int) ∧ (e == 0) = false ∧ (if (e == 0) = true ∧ (pt != a) = true then 4 else e) = e) ∨ (¬ (k : Int) < (was.length : Int) ∧ (e == 0) = false ∧ (if (e == 0) = true ∧ (pt != a) = true then 4 else e) = e) ∨ (¬ (k : Int) < (was.length : Int) ∧ e = 0 ∧ (pt != a) = false ∧ (if (e == 0) = true ∧ (pt != a) = true then 4 else e) = 0) ∨ (¬ (k : Int) < (was.length : Int) ∧ e = 0 ∧ (pt != a) = true ∧ (if (e == 0) = true ∧ (pt != a) = true then 4 else e) = 4) := by
          cases h5 : (pt != a) <;> by_cases h4 : e = 0 <;> simp [h4] at hstop ⊢ <;> omega
        clear hgo hstop
        obtain ⟨HX, hr0, hr1⟩ := HB.out
        apply Row.use hr0; intro q1 f1 l1 R1
        apply Row.use hr1; intro q2 f2 l2 R2
        clear hr0 hr1 HB
        have hX := HX.size
        have HE0 := Lib.hid HX
        clear HX
        rcases hstop2 with ⟨h1', h2', hI⟩ | ⟨h1', h2', hI⟩ | ⟨h1', rfl, h2', hI⟩ | ⟨h1', rfl, h2', hI⟩
        all_goals
          rw [hI] at HJ
          clear hI
          go_wp2
          go_loopg [9, 11] was.length (fun gg s9 s11 w2 => ∃ (k : Nat) (e : Int), k ≤ was.length ∧ was.length - k ≤ gg ∧ s9 = .int .i64 e ∧ s11 = .int .i64 k ∧ Aside (run2 a e (was.drop k) = res) ∧ Aside (Ext w w2 ∧ Row w2 w.heap.size #[.int .i64 a, .int .i64 b, .int .i64 c1, .int .i64 d, .int .i64 x, .int .i64 f]))
          case atStart => exact ⟨0, _, Nat.zero_le _, by omega, rfl, rfl, HJ.out.symm, by repeat (first | (with_reducible exact Ext.refl _) | (with_reducible refine Ext.alloc ?_ _) | (with_reducible apply Ext.setC; focus (simp <;> omega)) | (with_reducible refine Ext.drew ?_) | (with_reducible refine Ext.drewN ?_ _) | (with_reducible refine Ext.trans ?_ (Hid.out ‹Hid (Ext _ _)›))), R1.out⟩
          case round =>
            clear HJ h1' h2' q1 f1 l1 R1 q2 f2 l2 R2 HE0 hX hbnd hk hg
            obtain ⟨k, e, hk, hg, rfl, rfl, HV, HB⟩ := hrel
            by_cases hgo : e = 0 ∧ k < was.length
            · obtain ⟨rfl, hlt⟩ := hgo
              obtain ⟨HE, hr0⟩ := HB.out
              apply Row.use hr0; intro q1 f1 l1 R1
              obtain ⟨b', o, rfl, hb, hc⟩ := H3.out (by omega)
              have hbr : b' < wr.heap.size := Nat.lt_of_lt_of_le hb HE.size
              have hcr : ∀ i u, (tpc was[k]!)[i]? = some u → wr.cell? ⟨b', o + k * 5 + i, none⟩ = some u := fun i u hu => (HE.cells b' _ hb).trans (hc k hlt i u hu)
              clear hc hr0 HE
              have hkk : was[k]! = was[k] := by simp [hlt]
              rw [hkk] at hcr
              have hdr : run2 a (if (was[k].ticket != a) = true then 4 else 0) (was.drop (k + 1)) = res := by
                rw [← HV.out, List.drop_eq_getElem_cons hlt, run2_cons]
              have hlt' : (k : Int) < (was.length : Int) := by omega
              have hk0 : (0 : Int) ≤ (k : Int) := by omega
              generalize was[k] = x' at hcr hdr
              obtain ⟨x0, x1, x2, x3, x4⟩ := x'
              have c0 : wr.cell? ⟨b', o + k * 5, none⟩ = some (.int .i64 x0) := hcr 0 _ rfl
              clear hcr hkk
              simp only at hdr
              cases hx : (x0 != a)
              all_goals
                (first | rw [if_pos hx] at hdr | rw [if_neg (by rw [hx]; decide)] at hdr)
                have HX := Lib.hid hdr
                clear hdr
                go_wp2_with fail
                go_quiet (fail)
                go_wp2_with fail
                go_roundg (was.length - (k + 1))
                case measure => omega
                case rel => exact ⟨k + 1, _, by omega, by omega, rfl, by go_num, HX.out, HB.out.1.drewN _, HB.out.2.drewN⟩
            · have he : e = res := by
                by_cases e0 : e = 0
                · have hkl : k = was.length := by omega
                  have := HV.out
                  rwa [hkl, List.drop_length, run2_nil] at this
                · have := HV.out
                  rwa [run2_stop _ _ e0] at this
              subst he
              clear HV
              have hstop : ((k : Int) < (was.length : Int) ∧ (e == 0) = false) ∨ ¬ (k : Int) < (was.length : Int) := by
                by_cases hh : (k : Int) < (was.length : Int)
                · exact .inl ⟨hh, by simp; intro h0; exact hgo ⟨h0, by omega⟩⟩
                · exact .inr hh
              clear hgo
              rcases hstop with ⟨h1', h2'⟩ | h1'
              all_goals
                go_wp2
                go_ret
                exact ⟨rfl, HB.out.1⟩
  · obtain rfl : 0 = e1 := by rw [← hE]; simp
    clear hE
    go_enter Try.func21, Try.ntmps21
    go_wp2_with fail
    (refine (HC1.out _).mono ?_; rintro e w1 ⟨rfl, h1⟩; have H1 := Lib.hid h1; have hz1 := h1.size; clear h1; (try simp only [World.size_alloc, size_set, World.heap_drewN, size_drew] at hz1); apply Row.use (w := w1) (g := w.heap.size); (focus (repeat (first | (with_reducible exact Hid.out ‹Hid (Row _ _ _)›) | (with_reducible exact Row.newAt rfl) | (with_reducible apply Row.newAt; (simp; done)) | (with_reducible apply Row.set_) | (with_reducible apply Row.far; focus (simp <;> omega)) | (with_reducible apply Row.alloc) | (with_reducible apply Row.drew) | (with_reducible apply Row.drewN) | (with_reducible apply Row.ext (Hid.out ‹Hid (Ext _ _)›))))); intro q1_0 f1_0 l1_0 R1_0; (try simp only [List.setIfInBounds_toArray, List.set_cons_zero, List.set_cons_succ] at q1_0 R1_0); apply Row.use (w := w1) (g := w.heap.size + 1); (focus (repeat (first | (with_reducible exact Hid.out ‹Hid (Row _ _ _)›) | (with_reducible exact Row.newAt rfl) | (with_reducible apply Row.newAt; (simp; done)) | (with_reducible apply Row.set_) | (with_reducible apply Row.far; focus (simp <;> omega)) | (with_reducible apply Row.alloc) | (with_reducible apply Row.drew) | (with_reducible apply Row.drewN) | (with_reducible apply Row.ext (Hid.out ‹Hid (Ext _ _)›))))); intro q1_1 f1_1 l1_1 R1_1; (try simp only [List.setIfInBounds_toArray, List.set_cons_zero, List.set_cons_succ] at q1_1 R1_1))
    go_wp2_with fail
    (refine (HC2.out _).mono ?_; rintro e w2 ⟨rfl, h2⟩; have H2 := Lib.hid h2; have hz2 := h2.size; clear h2; (try simp only [World.size_alloc, size_set, World.heap_drewN, size_drew] at hz2); apply Row.use (w := w2) (g := w.heap.size); (focus (repeat (first | (with_reducible exact Hid.out ‹Hid (Row _ _ _)›) | (with_reducible exact Row.newAt rfl) | (with_reducible apply Row.newAt; (simp; done)) | (with_reducible apply Row.set_) | (with_reducible apply Row.far; focus (simp <;> omega)) | (with_reducible apply Row.alloc) | (with_reducible apply Row.drew) | (with_reducible apply Row.drewN) | (with_reducible apply Row.ext (Hid.out ‹Hid (Ext _ _)›))))); intro q2_0 f2_0 l2_0 R2_0; (try simp only [List.setIfInBounds_toArray, List.set_cons_zero, List.set_cons_succ] at q2_0 R2_0); apply Row.use (w := w2) (g := w.heap.size + 1); (focus (repeat (first | (with_reducible exact Hid.out ‹Hid (Row _ _ _)›) | (with_reducible exact Row.newAt rfl) | (with_reducible apply Row.newAt; (simp; done)) | (with_reducible apply Row.set_) | (with_reducible apply Row.far; focus (simp <;> omega)) | (with_reducible apply Row.alloc) | (with_reducible apply Row.drew) | (with_reducible apply Row.drewN) | (with_reducible apply Row.ext (Hid.out ‹Hid (Ext _ _)›))))); intro q2_1 f2_1 l2_1 R2_1; (try simp only [List.setIfInBounds_toArray, List.set_cons_zero, List.set_cons_succ] at q2_1 R2_1))
    go_wp2_with fail
    refine (HW3.out _).mono ?_
    rintro e wz ⟨rfl, rfl⟩
    go_wp2_with fail
    go_loopg [9, 10] was.length (fun gg s9 s10 wr => ∃ (k : Nat) (e : Int), k ≤ was.length ∧ was.length - k ≤ gg ∧ s9 = .int .i64 e ∧ s10 = .int .i64 k ∧ Aside (run1 e (was.drop k) = r1) ∧ Aside (Ext w wr ∧ Row wr w.heap.size #[.int .i64 a, .int .i64 b, .int .i64 c1, .int .i64 d, .int .i64 x, .int .i64 f] ∧ Row wr (w.heap.size + 1) #[.int .i64 pt, .int .i64 pg, .int .i64 ps, .int .i64 pti, .int .i64 pz]))
    case atStart => exact ⟨0, _, Nat.zero_le _, by omega, rfl, rfl, HR.out, by repeat (first | (with_reducible exact Ext.refl _) | (with_reducible refine Ext.alloc ?_ _) | (with_reducible apply Ext.setC; focus (simp <;> omega)) | (with_reducible refine Ext.drew ?_) | (with_reducible refine Ext.drewN ?_ _) | (with_reducible refine Ext.trans ?_ (Hid.out ‹Hid (Ext _ _)›))), R2_0.out, R2_1.out⟩
    case round =>
      clear HR
      obtain ⟨k, e, hk, hg, rfl, rfl, HV, HB⟩ := hrel
      have hbnd := HB.out.2.2.1
      by_cases hgo : e = 0 ∧ k < was.length
      · obtain ⟨rfl, hlt⟩ := hgo
        obtain ⟨b', o, rfl, hb, hc⟩ := H3.out (by omega)
        have hbr : b' < wr.heap.size := Nat.lt_of_lt_of_le hb HB.out.1.size
        have hcr : ∀ i u, (tpc was[k]!)[i]? = some u → wr.cell? ⟨b', o + k * 5 + i, none⟩ = some u := fun i u hu => (HB.out.1.cells b' _ hb).trans (hc k hlt i u hu)
        clear hc
        have hkk : was[k]! = was[k] := by simp [hlt]
        rw [hkk] at hcr
        have hdr : run1 (ckTap was[k]) (was.drop (k + 1)) = r1 := by
          rw [← HV.out, List.drop_eq_getElem_cons hlt, run1_cons]
        have hlt' : (k : Int) < (was.length : Int) := by omega
        generalize was[k] = x' at hcr hdr
        have HX := Lib.hid hdr
        clear hdr hkk
        have hcall := fun w => HCX.out x' w
        obtain ⟨x0, x1, x2, x3, x4⟩ := x'
        have c0 : wr.cell? ⟨b', o + k * 5, none⟩ = some (.int .i64 x0) := hcr 0 _ rfl
        have c1 : wr.cell? ⟨b', o + k * 5 + 1, none⟩ = some (.int .i64 x1) := hcr 1 _ rfl
        have c2 : wr.cell? ⟨b', o + k * 5 + 2, none⟩ = some (.int .i64 x2) := hcr 2 _ rfl
        have c3 : wr.cell? ⟨b', o + k * 5 + 3, none⟩ = some (.int .i64 x3) := hcr 3 _ rfl
        have c4 : wr.cell? ⟨b', o + k * 5 + 4, none⟩ = some (.int .i64 x4) := hcr 4 _ rfl
        clear hcr
        unfold tpc at hcall
        generalize ckTap ⟨x0, x1, x2, x3, x4⟩ = q at hcall HX
        have HC := Lib.hid hcall
        clear hcall
        go_wp2_with (go_at_call 25; refine (HC.out _).mono ?_; rintro e w1 ⟨rfl, h1⟩; have H1 := Lib.hid h1; clear h1)
        go_roundg (was.length - (k + 1))
        case measure => omega
        case rel => exact ⟨k + 1, _, by omega, by omega, rfl, by go_num, HX.out, HB.out.1.trans H1.out, HB.out.2.1.ext H1.out, HB.out.2.2.ext H1.out⟩
      · have he : e = r1 := by
          by_cases e0 : e = 0
          · have hkl : k = was.length := by omega
            have := HV.out
            rwa [hkl, List.drop_length, run1_nil] at this
          · have := HV.out
            rwa [run1_stop _ e0] at this
        subst he
        clear HV
        have hstop : ((k : Int) < (was.length : Int) ∧ (e == 0) = false) ∨ ¬ (k : Int) < (was.length : Int) := by
          by_cases hh : (k : Int) < (was.length : Int)
          · exact .inl ⟨hh, by simp; intro h0; exact hgo ⟨h0, by omega⟩⟩
          · exact .inr hh
        have hstop2 : ((k : Int) < (was.length : Int) ∧ (e == 0) = false ∧ (if (e == 0) = true ∧ (pt != a) = true then 4 else e) = e) ∨ (¬ (k : Int) < (was.length : Int) ∧ (e == 0) = false ∧ (if (e == 0) = true ∧ (pt != a) = true then 4 else e) = e) ∨ (¬ (k : Int) < (was.length : Int) ∧ e = 0 ∧ (pt != a) = false ∧ (if (e == 0) = true ∧ (pt != a) = true then 4 else e) = 0) ∨ (¬ (k : Int) < (was.length : Int) ∧ e = 0 ∧ (pt != a) = true ∧ (if (e == 0) = true ∧ (pt != a) = true then 4 else e) = 4) := by
          cases h5 : (pt != a) <;> by_cases h4 : e = 0 <;> simp [h4] at hstop ⊢ <;> omega
        clear hgo hstop
        obtain ⟨HX, hr0, hr1⟩ := HB.out
        apply Row.use hr0; intro q1 f1 l1 R1
        apply Row.use hr1; intro q2 f2 l2 R2
        clear hr0 hr1 HB
        have hX := HX.size
        have HE0 := Lib.hid HX
        clear HX
        rcases hstop2 with ⟨h1', h2', hI⟩ | ⟨h1', h2', hI⟩ | ⟨h1', rfl, h2', hI⟩ | ⟨h1', rfl, h2', hI⟩
        all_goals
          rw [hI] at HJ
          clear hI
          go_wp2
          go_loopg [9, 11] was.length (fun gg s9 s11 w2 => ∃ (k : Nat) (e : Int), k ≤ was.length ∧ was.length - k ≤ gg ∧ s9 = .int .i64 e ∧ s11 = .int .i64 k ∧ Aside (run2 a e (was.drop k) = res) ∧ Aside (Ext w w2 ∧ Row w2 w.heap.size #[.int .i64 a, .int .i64 b, .int .i64 c1, .int .i64 d, .int .i64 x, .int .i64 f]))
          case atStart => exact ⟨0, _, Nat.zero_le _, by omega, rfl, rfl, HJ.out.symm, by repeat (first | (with_reducible exact Ext.refl _) | (with_reducible refine Ext.alloc ?_ _) | (with_reducible apply Ext.setC; focus (simp <;> omega)) | (with_reducible refine Ext.drew ?_) | (with_reducible refine Ext.drewN ?_ _) | (with_reducible refine Ext.trans ?_ (Hid.out ‹Hid (Ext _ _)›))), R1.out⟩
          case round =>
            clear HJ h1' h2' q1 f1 l1 R1 q2 f2 l2 R2 HE0 hX hbnd hk hg
            obtain ⟨k, e, hk, hg, rfl, rfl, HV, HB⟩ := hrel
            by_cases hgo : e = 0 ∧ k < was.length
            · obtain ⟨rfl, hlt⟩ := hgo
              obtain ⟨HE, hr0⟩ := HB.out
              apply Row.use hr0; intro q1 f1 l1 R1
              obtain ⟨b', o, rfl, hb, hc⟩ := H3.out (by omega)
              have hbr : b' < wr.heap.size := Nat.lt_of_lt_of_le hb HE.size
              have hcr : ∀ i u, (tpc was[k]!)[i]? = some u → wr.cell? ⟨b', o + k * 5 + i, none⟩ = some u := fun i u hu => (HE.cells b' _ hb).trans (hc k hlt i u hu)
              clear hc hr0 HE
              have hkk : was[k]! = was[k] := by simp [hlt]
              rw [hkk] at hcr
              have hdr : run2 a (if (was[k].ticket != a) = true then 4 else 0) (was.drop (k + 1)) = res := by
                rw [← HV.out, List.drop_eq_getElem_cons hlt, run2_cons]
              have hlt' : (k : Int) < (was.length : Int) := by omega
              have hk0 : (0 : Int) ≤ (k : Int) := by omega
              generalize was[k] = x' at hcr hdr
              obtain ⟨x0, x1, x2, x3, x4⟩ := x'
              have c0 : wr.cell? ⟨b', o + k * 5, none⟩ = some (.int .i64 x0) := hcr 0 _ rfl
              clear hcr hkk
              simp only at hdr
              cases hx : (x0 != a)
              all_goals
                (first | rw [if_pos hx] at hdr | rw [if_neg (by rw [hx]; decide)] at hdr)
                have HX := Lib.hid hdr
                clear hdr
                go_wp2_with fail
                go_quiet (fail)
                go_wp2_with fail
                go_roundg (was.length - (k + 1))
                case measure => omega
                case rel => exact ⟨k + 1, _, by omega, by omega, rfl, by go_num, HX.out, HB.out.1.drewN _, HB.out.2.drewN⟩
            · have he : e = res := by
                by_cases e0 : e = 0
                · have hkl : k = was.length := by omega
                  have := HV.out
                  rwa [hkl, List.drop_length, run2_nil] at this
                · have := HV.out
                  rwa [run2_stop _ _ e0] at this
              subst he
              clear HV
              have hstop : ((k : Int) < (was.length : Int) ∧ (e == 0) = false) ∨ ¬ (k : Int) < (was.length : Int) := by
                by_cases hh : (k : Int) < (was.length : Int)
                · exact .inl ⟨hh, by simp; intro h0; exact hgo ⟨h0, by omega⟩⟩
                · exact .inr hh
              clear hgo
              rcases hstop with ⟨h1', h2'⟩ | h1'
              all_goals
                go_wp2
                go_ret
                exact ⟨rfl, HB.out.1⟩
end Go.Proofs.Ytglifpoiildpfaa
