/- Mh: parts of the proofs, laid together. -/
import Derived.Test.YteojjbhadgkfgaaGreatMg
import Derived.Test.YteojjbhadgkfgaaGreatMc
import Derived.Test.YteojjbhadgkfgaaGreatMe
/- mergeBegun. -/
namespace Go.Proofs.YteojjbhadgkfgaaGreat
set_option linter.unusedSimpArgs false
set_option linter.unusedVariables false
set_option maxRecDepth 100000
open Go Go.RowKit Lb

/-- a slice written out: a row of the call's own -/
theorem OwnL.lits {α : Type} {enc : α → Array Value} {k base n g : Nat} {e : TypeId} {W : World} {cs : Array Value} (l : List α) (hk : ∀ x, (enc x).size = k) (hg : g = W.heap.size) (hcs : cs.toList = encs enc l) (hn : n = l.length) (hm : l.length ≤ maxLen) (hb : base ≤ W.heap.size) :
    OwnL e k enc base (W.alloc (.cells cs e)) (.slice (some ⟨g, 0, none⟩) n n) l := by
  subst hg hn
  unfold OwnL
  rw [← hcs]
  exact World.ownsRow_lit W cs l.length hb hm (by rw [← Array.length_toList, hcs, encs_length hk])
def mbA : List Tp := [⟨1, 1, 1, 9, 1⟩, ⟨1, 0, 2, 9, 1⟩, ⟨1, 0, 1, 5, 1⟩]
def mbB : List Tp := [⟨1, 0, 1, 5, 1⟩, ⟨1, 0, 2, 9, 1⟩, ⟨1, 1, 1, 9, 1⟩]
def mbC : List Tp := [⟨4, 2, 1, 30, 1⟩, ⟨1, 2, 2, 15, 1⟩, ⟨9, 2, 3, 70, 1⟩]
def mbD : Ld := ⟨bookTk, [⟨1, 2, 2, 15, 1⟩, ⟨1, 0, 1, 20, 1⟩, ⟨4, 2, 1, 30, 1⟩, ⟨1, 1, 1, 60, 1⟩], [1, 2, 1, 2]⟩
def mbE : List Tp := [⟨9, 2, 3, 70, 1⟩]
theorem mb_1 : orderL mbA = (mbB, 0) := by decide +kernel
theorem mb_2 : intoAll bookL mbC = (mbD, mbE, 0) := by decide +kernel
theorem mbc_1 (s : Value) (w : World) (hr : RdL 5 tpc w s mbA) : Calls Tryz.prog 81 #[s] w fun e w' => ∃ t, e = .returned (.tuple #[t, .int .i64 0]) ∧ Ext w w' ∧ RdL 5 tpc w' t mbB := by
  refine (merge_Order mbA s w hr).mono ?_
  rintro e w' ⟨t, h, hE, ho⟩
  rw [mb_1] at h ho
  exact ⟨t, h, hE, ho.rd tpc_size⟩
theorem mbc_2 (s0 s1 s2 s : Value) (w : World) (hr0 : RdL 6 tkc w s0 bookTk) (hr1 : RdL 5 tpc w s1 bookTp) (hr2 : RdL 1 inc w s2 [1, 2]) (hr : RdL 5 tpc w s mbC) : Calls Tryz.prog 83 #[.agg #[s0, s1, s2], s] w fun e w' => ∃ t0 t1 t2 t, e = .returned (.tuple #[.agg #[t0, t1, t2], t, .int .i64 0]) ∧ Ext w w' ∧ RdL 6 tkc w' t0 mbD.tickets ∧ RdL 5 tpc w' t1 mbD.taps ∧ RdL 1 inc w' t2 mbD.verdicts ∧ RdL 5 tpc w' t mbE := by
  refine (merge_Into bookL mbC s0 s1 s2 s w hr0 hr1 hr2 hr).mono ?_
  rintro e w' ⟨t0, t1, t2, t, h, hE, hl, ho, -⟩
  rw [mb_2] at h hl ho
  exact ⟨t0, t1, t2, t, h, hE, hl.tk.rd tkc_size, hl.tp.rd tpc_size, hl.vd.rd inc_size, ho.rd tpc_size⟩

set_option maxHeartbeats 16000000 in
theorem law_mergeBegun (w : World) :
    Calls Tryz.prog 33 #[] w fun e w' => e = .returned (.bool true) ∧ Ext w w' := by
  have HA := Lib.hid (fun (a b c d : Int) (w' : World) => law_at' a b c d w')
  have HO := Lib.hid mbc_1
  have HI := Lib.hid mbc_2
  have HS := Lib.hid (fun (m : List Tp) (v u : Value) (w' : World) (hr : RdL 5 tpc w' v m) (hs : RdL 5 tpc w' u m) => (show Calls Tryz.prog 73 #[v, u] w' fun e w'' => e = .returned (.bool true) ∧ Ext w' w'' from by
    have := ref_SameTaps m m v u w' hr hs
    simpa using this))
  unfold tpc at HA
  simp only at HA
  go_enter Tryz.func33, Tryz.ntmps33
  go_wp2_with fail
  (refine (HA.out _ _ _ _ _).mono ?_; rintro e w1 ⟨rfl, h1⟩; have H1 := Lib.hid h1; have hz1 := h1.size; clear h1; (try simp only [World.size_alloc, size_set, World.heap_drewN, size_drew] at hz1))
  go_wp2_with fail
  (refine (HA.out _ _ _ _ _).mono ?_; rintro e w2 ⟨rfl, h2⟩; have H2 := Lib.hid h2; have hz2 := h2.size; clear h2; (try simp only [World.size_alloc, size_set, World.heap_drewN, size_drew] at hz2))
  go_wp2_with fail
  (refine (HA.out _ _ _ _ _).mono ?_; rintro e w3 ⟨rfl, h3⟩; have H3 := Lib.hid h3; have hz3 := h3.size; clear h3; (try simp only [World.size_alloc, size_set, World.heap_drewN, size_drew] at hz3))
  go_wp2_with fail
  refine (HO.out _ _ ((OwnL.lits (base := 0) mbA tpc_size rfl rfl rfl (by decide) (Nat.zero_le _)).rd tpc_size)).mono ?_
  rintro e w4 ⟨t, rfl, h4, ho4⟩
  obtain ⟨B4, d4, rfl, -, -⟩ := ho4.form
  have H4 := Lib.hid h4
  have HO4 := Lib.hid ho4
  have hz4 := h4.size
  clear h4 ho4
  (try simp only [World.size_alloc, size_set, World.heap_drewN, size_drew] at hz4)
  go_wp2_with fail
  (refine (law_book _).mono ?_; rintro e w5 ⟨s0, s1, s2, rfl, h1, ha, hb, hc⟩; have ha5 := Lib.hid ha; have hb5 := Lib.hid hb; have hc5 := Lib.hid hc; obtain ⟨A5a, c5a, rfl, -, -⟩ := ha.form; obtain ⟨A5b, c5b, rfl, -, -⟩ := hb.form; obtain ⟨A5c, c5c, rfl, -, -⟩ := hc.form; have H5 := Lib.hid h1; have hz5 := h1.size; clear h1 ha hb hc; (try simp only [World.size_alloc, size_set, World.heap_drewN, size_drew] at hz5))
  go_wp2_with fail
  (refine (HA.out _ _ _ _ _).mono ?_; rintro e w6 ⟨rfl, h6⟩; have H6 := Lib.hid h6; have hz6 := h6.size; clear h6; (try simp only [World.size_alloc, size_set, World.heap_drewN, size_drew] at hz6))
  go_wp2_with fail
  (refine (HA.out _ _ _ _ _).mono ?_; rintro e w7 ⟨rfl, h7⟩; have H7 := Lib.hid h7; have hz7 := h7.size; clear h7; (try simp only [World.size_alloc, size_set, World.heap_drewN, size_drew] at hz7))
  go_wp2_with fail
  (refine (HA.out _ _ _ _ _).mono ?_; rintro e w8 ⟨rfl, h8⟩; have H8 := Lib.hid h8; have hz8 := h8.size; clear h8; (try simp only [World.size_alloc, size_set, World.heap_drewN, size_drew] at hz8))
  go_wp2_with fail
  refine (HI.out _ _ _ _ _ (ha5.out.ext (by exact extA)) (hb5.out.ext (by exact extA)) (hc5.out.ext (by exact extA)) ((OwnL.lits (base := 0) mbC tpc_size rfl rfl rfl (by decide) (Nat.zero_le _)).rd tpc_size)).mono ?_
  rintro e w9 ⟨t0, t1, t2, t, rfl, h9, hra, hrb, hrc, hrd⟩
  obtain ⟨C0, e0, rfl, -, -⟩ := hra.form
  obtain ⟨C1, e1, rfl, -, -⟩ := hrb.form
  obtain ⟨C2, e2, rfl, -, -⟩ := hrc.form
  obtain ⟨C3, e3, rfl, -, -⟩ := hrd.form
  have H9 := Lib.hid h9
  have HRC := Lib.hid hrc
  have HRD := Lib.hid hrd
  have hz9 := h9.size
  clear h9 hra hrb hrc hrd
  (try simp only [World.size_alloc, size_set, World.heap_drewN, size_drew] at hz9)
  have hd1 : mbD.taps.length = 4 := rfl
  have hd2 : mbD.verdicts.length = 4 := rfl
  rw [hd1, hd2]
  go_wp2_with fail
  (refine (HA.out _ _ _ _ _).mono ?_; rintro e w10 ⟨rfl, h10⟩; have H10 := Lib.hid h10; have hz10 := h10.size; clear h10; (try simp only [World.size_alloc, size_set, World.heap_drewN, size_drew] at hz10); apply Row.use (w := w10) (g := w9.heap.size); (focus (exact rowA)); intro q10_0 f10_0 l10_0 R10_0; (try simp only [List.setIfInBounds_toArray, List.set_cons_zero, List.set_cons_succ] at q10_0 R10_0))
  go_wp2_with fail
  (refine (HA.out _ _ _ _ _).mono ?_; rintro e w11 ⟨rfl, h11⟩; have H11 := Lib.hid h11; have hz11 := h11.size; clear h11; (try simp only [World.size_alloc, size_set, World.heap_drewN, size_drew] at hz11); apply Row.use (w := w11) (g := w9.heap.size); (focus (exact rowA)); intro q11_0 f11_0 l11_0 R11_0; (try simp only [List.setIfInBounds_toArray, List.set_cons_zero, List.set_cons_succ] at q11_0 R11_0))
  go_wp2_with fail
  (refine (HA.out _ _ _ _ _).mono ?_; rintro e w12 ⟨rfl, h12⟩; have H12 := Lib.hid h12; have hz12 := h12.size; clear h12; (try simp only [World.size_alloc, size_set, World.heap_drewN, size_drew] at hz12); apply Row.use (w := w12) (g := w9.heap.size); (focus (exact rowA)); intro q12_0 f12_0 l12_0 R12_0; (try simp only [List.setIfInBounds_toArray, List.set_cons_zero, List.set_cons_succ] at q12_0 R12_0))
  go_wp2_with fail
  refine (HS.out mbB _ _ _ (HO4.out.ext (by exact extA)) ((OwnL.lits (base := 0) mbB tpc_size rfl rfl rfl (by decide) (Nat.zero_le _)).rd tpc_size)).mono ?_
  (rintro e w13 ⟨rfl, h13⟩; have H13 := Lib.hid h13; have hz13 := h13.size; clear h13; (try simp only [World.size_alloc, size_set, World.heap_drewN, size_drew] at hz13); apply Row.use (w := w13) (g := w9.heap.size); (focus (exact rowA)); intro q13_0 f13_0 l13_0 R13_0; (try simp only [List.setIfInBounds_toArray, List.set_cons_zero, List.set_cons_succ] at q13_0 R13_0))
  obtain ⟨vb, vo, hA, hvb, v1⟩ := (HRC.out.ext (show Ext w9 w13 by exact extA)).num_at rfl (j := 1) (by decide)
  subst hA
  go_wp2_with fail
  (refine (HA.out _ _ _ _ _).mono ?_; rintro e w14 ⟨rfl, h14⟩; have H14 := Lib.hid h14; have hz14 := h14.size; clear h14; (try simp only [World.size_alloc, size_set, World.heap_drewN, size_drew] at hz14))
  go_wp2_with fail
  refine (HS.out mbE _ _ _ (HRD.out.ext (by exact extA)) ((OwnL.lits (base := 0) mbE tpc_size rfl rfl rfl (by decide) (Nat.zero_le _)).rd tpc_size)).mono ?_
  (rintro e w15 ⟨rfl, h15⟩; have H15 := Lib.hid h15; have hz15 := h15.size; clear h15; (try simp only [World.size_alloc, size_set, World.heap_drewN, size_drew] at hz15))
  go_wp2_with fail
  go_ret
  exact ⟨rfl, (show Ext w _ by exact extA)⟩
end Go.Proofs.YteojjbhadgkfgaaGreat
