/- Mac: parts of the proofs, laid together. -/
import Derived.Test.YteojjbhadgkfgaaDoorMab
import Derived.Test.YteojjbhadgkfgaaDoorMb
import Derived.Test.YteojjbhadgkfgaaDoorMw
import Derived.Test.YteojjbhadgkfgaaDoorMk
import Derived.Test.YteojjbhadgkfgaaDoorMc
import Derived.Test.YteojjbhadgkfgaaDoorMs
/- The reference's LineOf. -/
namespace Go.Proofs.YteojjbhadgkfgaaDoor
set_option linter.unusedSimpArgs false
set_option linter.unusedVariables false
set_option maxRecDepth 100000
open Go Go.RowKit Lb

theorem qrc_1 : ByteArray.extract ⟨#[63, 114, 99]⟩ 1 2 = bs [114] := by decide +kernel
theorem qrc_2 : ByteArray.extract ⟨#[63, 114, 99]⟩ 2 3 = bs [99] := by decide +kernel
theorem str_five (a b c d e f : ByteArray) : a ++ (((b ++ c) ++ d) ++ (e ++ f)) = a ++ ((((b ++ c) ++ d) ++ e) ++ f) := by
 simp [ByteArray.append_assoc]
set_option maxHeartbeats 16000000 in
theorem ref_LineOf (tks : List Tk) (taps : List Tp) (vs : List Int) (s0 s1 s2 : Value) (i : Nat) (hi : i < tks.length) (w : World) (hck : ckLedger ⟨tks, taps, vs⟩ = 0) (hr0 : RdL 6 tkc w s0 tks) (hr1 : RdL 5 tpc w s1 taps) (hr2 : RdL 1 inc w s2 vs) :
  Calls Tryd.prog 10 #[.agg #[s0, s1, s2], .int .i64 i] w fun e w' => e = .returned (.string (bs (lineR ⟨tks, taps, vs⟩ tks[i]))) ∧ Ext w w' := by
 have hmem : tks[i] ∈ tks := List.getElem_mem hi
 have htk0 := tickets_mem (right_iff.1 hck).2.2.2.1 _ hmem
 have HTX := Lib.hid (fun (w' : World) => ref_CodeOf tks[i] htk0 w')
 have HMN := Lib.hid (fun (w' : World) (h : Ext w w') => ref_ManyOf taps vs s0 s1 s2 tks[i].id taps.length w' (Nat.le_refl _) (right_len hck) (by obtain ⟨A, c, h, -⟩ := hr0.form; exact ⟨_, _, _, h⟩) (hr1.ext h) (hr2.ext h))
 rw [ridesTo_all taps vs tks[i].id taps.length (Nat.le_refl _) (by have := right_len hck; simp only at this; omega)] at HMN
 have HRS := Lib.hid (fun (w' : World) (h : Ext w w') => ref_LeftOf tks taps vs s0 s1 s2 i hi w' hck (hr0.ext h) (hr1.ext h) (hr2.ext h))
 have HDG := Lib.hid (fun (n : Nat) (h : n < 9223372036854775808) (w' : World) => ref_Digits n h w')
 obtain ⟨m, hm⟩ : ∃ m : Nat, restOf ⟨tks, taps, vs⟩ tks[i] = m := ⟨_, (Int.toNat_of_nonneg (rest_pos hck hmem).1).symm⟩
 have hm60 := (rest_pos hck hmem).2
 have hln : (ridesOf taps vs tks[i].id).length ≤ 60 := Nat.le_trans (ridesOf_len taps vs tks[i].id) (right_iff.1 hck).2.1
 have hi' : (i : Int) < (tks.length : Int) := by omega
 have HTIM := Lib.hid (fun (k : Nat) (hk : k < taps.length) => And.intro (gate_in (right_known hck taps[k] (List.getElem_mem hk)).1) (right_times hck taps[k] (List.getElem_mem hk)))
 have HVS := Lib.hid (right_vs hck)
 have hlen := right_len hck
 have h60 : taps.length ≤ 60 := (right_iff.1 hck).2.1
 have hhd : headR ⟨tks, taps, vs⟩ tks[i] = (((codeOf tks[i] ++ [32]) ++ Lib.decDigits (ridesOf taps vs tks[i].id).length) ++ [47]) ++ Lib.decDigits m := by
  unfold headR
  rw [hm, decI_nat, decI_nat]
  simp
 have HTL := Lib.hid (fun (k : Nat) (hk : k ≤ taps.length) => tapsR_len vs tks[i].id (right_in hck) k hk)
 have hHL := headR_len hck hmem
 rw [hhd] at hHL
 have hCl := codeOf_length tks[i]
 unfold lineR
 rw [hhd]
 rw [hm] at HRS hm60
 obtain ⟨A0, c0, rfl, -, -⟩ := hr0.form
 obtain ⟨tb, tof, rfl, htb, g0, g1, g2, g3, g4, g5⟩ := hr0.tk_at rfl hi
 have HR1 := Lib.hid hr1
 have HR2 := Lib.hid hr2
 obtain ⟨A, c, rfl, -, -⟩ := hr1.form
 obtain ⟨A2, c2, rfl, -, -⟩ := hr2.form
 have HLEN := Lib.hid (And.intro hlen h60)
 clear hr0 hr1 hr2 hck hhd hm hmem htk0 hlen h60
 generalize ridesOf taps vs tks[i].id = R at *
 generalize tks[i] = t at *
 obtain ⟨t0, t1, t2, t3, t4, t5⟩ := t
 simp only [tkc] at g0 g1 g2 g3 g4 g5 HMN HTX ⊢
 obtain ⟨n, hn⟩ : ∃ n, n = R.length := ⟨_, rfl⟩
 rw [← hn] at HMN hln hHL ⊢
 clear hn
 generalize lastInt R = lr at *
 generalize codeOf ⟨t0, t1, t2, t3, t4, t5⟩ = C at *
 go_enter Tryd.func10, Tryd.ntmps10
 go_wp2_with fail
 (refine (HMN.out _ (by exact extA)).mono ?_; rintro e w1 ⟨rfl, h1⟩; have H1 := Lib.hid h1; have hz1 := h1.size; clear h1; (try simp only [World.size_alloc, size_set, World.heap_drewN, size_drew] at hz1); apply Row.use (w := w1) (g := w.heap.size); (focus (exact rowA)); intro q1_0 f1_0 l1_0 R1_0; (try simp only [lSet] at q1_0 R1_0))
 go_upto_region 3 with fail
 (apply wp_gen1 (w0 := w) (g0 := w.heap.size); (focus (exact rowA)); (focus (exact extA)); intro W HW hzW Ra_0; (try simp only [lSet, World.size_alloc, size_set, World.heap_drewN, size_drew] at hzW Ra_0); have la_0 := Ra_0.out.size)
 have HK := Lib.hid (fun (w' : World) (h : Ext W w') => And.intro (Row.ext h Ra_0.out).2.1 (And.intro (((HW.out.trans h).cells _ _ htb).trans g0) (And.intro (((HW.out.trans h).cells _ _ htb).trans g1) (And.intro (((HW.out.trans h).cells _ _ htb).trans g2) (And.intro (((HW.out.trans h).cells _ _ htb).trans g3) (And.intro (((HW.out.trans h).cells _ _ htb).trans g4) ((((HW.out.trans h).cells _ _ htb).trans g5))))))))
 have HWW := Lib.hid (And.intro trivial HW.out)
 clear g0 g1 g2 g3 g4 g5
 have hD1 := dec_len n
 have hD2 := dec_len m
 have HDn := Lib.hid (fun w' => HDG.out n (by omega) w')
 have HDm := Lib.hid (fun w' => HDG.out m (by omega) w')
 generalize hDe1 : Lib.decDigits n = D1 at *
 generalize hDe2 : Lib.decDigits m = D2 at *
 have HDe := Lib.hid (And.intro hDe1 hDe2)
 clear hDe1 hDe2
 have hs1 := bs_size C
 have hs2 := bs_size D1
 have hs3 := bs_size D2
 rw [hCl] at hs1
 have hd1 : D1.length ≤ 61 := by omega
 have hd2 : D2.length ≤ 61 := by omega
 clear hCl hD1 hD2
 (refine T_begin (fun w' => Ext W w') 16 (by kernel_rfl) ((Ext.refl _).drew) (fun hS => ?_); simp only [List.length_cons, List.length_nil])
 (refine tkA 0 HK hS ?_; (try simp only [Act.put, lSet]); refine tkA 1 HK hS ?_; (try simp only [Act.put, lSet]); refine tkA 2 HK hS ?_; (try simp only [Act.put, lSet]); refine tkA 3 HK hS ?_; (try simp only [Act.put, lSet]); refine tkA 4 HK hS ?_; (try simp only [Act.put, lSet]); refine tkA 7 HK hS ?_; (try simp only [Act.put, lSet]); refine tkA 11 HK hS ?_; (try simp only [Act.put, lSet]); refine tkA 12 HK hS ?_; (try simp only [Act.put, lSet]))
 (refine T_only (i := 5) rfl (by kernel_rfl) rfl (fun K hK => ?_); go_simp)
 refine (HTX.out _).mono ?_
 rintro e w2 ⟨rfl, h1⟩
 have H2 := Lib.hid h1
 clear h1 hS
 (go_wp2_with fail; have hS : Ext W w2 := by exact extA); (refine hK.out _ _ (.inr hS) ?_; clear hK; (try simp only [Act.put, lSet]))
 ((refine T_takeP (i := 6) (v := ?_) rfl (by kernel_rfl) (by first | exact wanted_none rfl | kernel_rfl) (by first | exact .inr hS | exact .inl (by kernel_rfl)) ?_ ?_; rotate_left; focus (intro w; go_simp; (try rw [if_neg (by omega)]); try (with_reducible rfl))); (try simp only [Act.put, lSet]))
 (refine T_only (i := 8) rfl (by kernel_rfl) rfl (fun K hK => ?_); go_simp)
 refine (HDn.out _).mono ?_
 rintro e w3 ⟨rfl, h1⟩
 have H3 := Lib.hid h1
 clear h1 hS
 (go_wp2_with fail; have hS : Ext W w3 := by exact extA); (refine hK.out _ _ (.inr hS) ?_; clear hK; (try simp only [Act.put, lSet]))
 ((refine T_takeP (i := 9) (v := ?_) rfl (by kernel_rfl) (by first | exact wanted_none rfl | kernel_rfl) (by first | exact .inr hS | exact .inl (by kernel_rfl)) ?_ ?_; rotate_left; focus (intro w; go_simp; (try rw [if_neg (by omega)]); try (with_reducible rfl))); (try simp only [Act.put, lSet]); (refine T_takeP (i := 10) (v := ?_) rfl (by kernel_rfl) (by first | exact wanted_none rfl | kernel_rfl) (by first | exact .inr hS | exact .inl (by kernel_rfl)) ?_ ?_; rotate_left; focus (intro w; go_simp; (try rw [if_neg (by omega)]); try (with_reducible rfl))); (try simp only [Act.put, lSet]))
 (refine T_only (i := 13) rfl (by kernel_rfl) rfl (fun K hK => ?_); go_simp)
 refine (HRS.out _ (HWW.out.2.trans hS)).mono ?_
 rintro e w4 ⟨rfl, h1⟩
 have H4 := Lib.hid h1
 clear h1 hS
 (go_wp2_with fail; have hS : Ext W w4 := by exact extA); (refine hK.out _ _ (.inr hS) ?_; clear hK; (try simp only [Act.put, lSet]))
 (refine T_only (i := 14) rfl (by kernel_rfl) rfl (fun K hK => ?_); go_simp)
 refine (HDm.out _).mono ?_
 rintro e w5 ⟨rfl, h1⟩
 have H5 := Lib.hid h1
 clear h1 hS
 (go_wp2_with fail; have hS : Ext W w5 := by exact extA); (refine hK.out _ _ (.inr hS) ?_; clear hK; (try simp only [Act.put, lSet]))
 ((refine T_takeP (i := 15) (v := ?_) rfl (by kernel_rfl) (by first | exact wanted_none rfl | kernel_rfl) (by first | exact .inr hS | exact .inl (by kernel_rfl)) ?_ ?_; rotate_left; focus (intro w; go_simp; (try rw [if_neg (by omega)]); try (with_reducible rfl))); (try simp only [Act.put, lSet]))
 (refine T_only (i := 16) rfl (by kernel_rfl) rfl (fun K hK => ?_); go_simp; refine hK.out _ _ (.inl (by kernel_rfl)) ?_; clear hK; (try simp only [Act.put, lSet]); refine T_done (by kernel_rfl) ?_ _)
 have HE5 := Lib.hid (And.intro trivial (HWW.out.2.trans (show Ext W w5 by exact extA)))
 have HB5 := Lib.hid (show Row w5 w.heap.size #[.slice (some ⟨tb, tof, none⟩) tks.length c0, .slice A taps.length c, .slice A2 vs.length c2] from by exact rowA)
 clear hS HK HTX HMN HRS Ra_0 H1 H2 H3 H4 H5
 apply Row.use HB5.out; intro q6 f6 l6 R6
 go_wp2_with fail
 have hst : bs ((((C ++ [32]) ++ D1) ++ [47]) ++ D2) = bs C ++ ⟨#[32]⟩ ++ bs D1 ++ ⟨#[47]⟩ ++ bs D2 := by
  rw [← bs_app, ← bs_app, ← bs_app, ← bs_app]
  rfl
 have hHd : ((((C ++ [32]) ++ D1) ++ [47]) ++ D2).length ≤ 138 := hHL
 generalize hG : ((((C ++ [32]) ++ D1) ++ [47]) ++ D2) = Hd at *
 have HST := Lib.hid hst
 have HG := Lib.hid hG
 clear hst hs1 hs2 hs3 hG hHL hd1 hd2
 go_loopg [8, 9] taps.length (fun gg s8 s9 wr => ∃ k : Nat, k ≤ taps.length ∧ taps.length - k ≤ gg ∧ s8 = .string (bs (Hd ++ tapsR taps vs t0 k)) ∧ s9 = .int .i64 k ∧ Aside (Ext w wr ∧ Row wr w.heap.size #[.slice (some ⟨tb, tof, none⟩) tks.length c0, .slice A taps.length c, .slice A2 vs.length c2]))
 case atStart => exact ⟨0, by omega, by omega, by rw [show Hd ++ tapsR taps vs t0 0 = Hd from List.append_nil _, HST.out], rfl, HE5.out.2, R6.out⟩
 case round =>
  obtain ⟨k, hk, hgg, rfl, rfl, HV⟩ := hrel
  have HE := Lib.hid (And.intro trivial HV.out.1)
  have HB := Lib.hid HV.out.2
  clear HV q6 f6 l6 R6 HE5 HB5
  apply Row.use HB.out; intro q8 f8 l8 R8
  by_cases hlt : k < taps.length
  ·have hlt' : (k : Int) < (taps.length : Int) := by omega
   obtain ⟨b, o, rfl, hb, d0, d1, d2, d3, d4⟩ := (HR1.out.ext HE.out.2).tap_at rfl hlt
   have hkv : k < vs.length := by have := HLEN.out.1; omega
   have hkv' : (k : Int) < (vs.length : Int) := by omega
   have htim := HTIM.out k hlt
   have htl := HTL.out k hk
   have h60 := HLEN.out.2
   by_cases hx : taps[k].ticket = t0
   ·have hxb : (taps[k].ticket == t0) = true := by simpa using hx
    obtain ⟨b2, o2, rfl, hb2, e0⟩ := (HR2.out.ext HE.out.2).num_at rfl hkv
    have hvv := HVS.out vs[k] (List.getElem_mem hkv)
    have HS := Lib.hid (tapsR_yes hlt hkv hx)
    obtain ⟨ng, hng⟩ : ∃ n : Nat, taps[k].gate = n := ⟨_, (Int.toNat_of_nonneg htim.1.1).symm⟩
    obtain ⟨nt, hnt⟩ : ∃ n : Nat, taps[k].time = n := ⟨_, (Int.toNat_of_nonneg htim.2.1).symm⟩
    have HS3 := Lib.hid (show Hd ++ tapsR taps vs t0 (k + 1) = (Hd ++ tapsR taps vs t0 k) ++ (([32, if vs[k] = 1 then 114 else 99] ++ Lib.decDigits ng) ++ ([64] ++ Lib.decDigits nt)) by
     rw [HS.out, List.append_assoc]
     unfold tapR
     rw [hng, hnt, decI_nat, decI_nat])
    rw [hng] at d1 htim
    rw [hnt] at d3 htim
    have hac3 : (Hd ++ tapsR taps vs t0 k).length ≤ 1000000 := by rw [List.length_append]; omega
    clear hng hnt HS
    have HDg := Lib.hid (fun w' => HDG.out ng (by omega) w')
    have HDt := Lib.hid (fun w' => HDG.out nt (by omega) w')
    have hlg := dec_len ng
    have hlt2 := dec_len nt
    generalize Lib.decDigits ng = Dg at *
    generalize Lib.decDigits nt = Dt at *
    have hlg2 : Dg.length ≤ 10 := by omega
    have hlt3 : Dt.length ≤ 10000 := by omega
    clear hlg hlt2
    have hsg := bs_size Dg
    have hst := bs_size Dt
    generalize Hd ++ tapsR taps vs t0 k = ac3 at *
    have hsa := bs_size ac3
    generalize taps[k] = tp at *
    generalize vs[k] = vk at *
    obtain ⟨y0, y1, y2, y3, y4⟩ := tp
    simp only at d0 d1 d2 d3 d4 hxb htim
    by_cases hv : vk = 1
    ·subst hv
     rw [if_pos rfl] at HS3
     have hq := qrc_1
     have hwr : IntKind.i64.wrap 2 = 2 := IntWalk.i64_in _ (by omega)
     have hsb := bs_size [114]
     rw [List.length_singleton] at hsb
     go_upto_region 8 with fail
     (apply wp_gen1 (w0 := wr) (g0 := w.heap.size); (focus (exact rowA)); (focus (exact extA)); intro W HW hzW Rz_0; (try simp only [lSet, World.size_alloc, size_set, World.heap_drewN, size_drew] at hzW Rz_0); have lz_0 := Rz_0.out.size)
     have HWW := Lib.hid (And.intro trivial HW.out)
     have HW2 := Lib.hid (HW.out)
     have HK := Lib.hid (fun (w' : World) (h : Ext W w') => And.intro (Row.ext h Rz_0.out).2.1 (And.intro (((HW2.out.trans h).cells _ _ hb).trans d0) (And.intro (((HW2.out.trans h).cells _ _ hb).trans d1) (And.intro (((HW2.out.trans h).cells _ _ hb).trans d2) (And.intro (((HW2.out.trans h).cells _ _ hb).trans d3) (And.intro (((HW2.out.trans h).cells _ _ hb).trans d4) ((((HW2.out.trans h).cells _ _ hb2).trans e0))))))))
     clear d0 d1 d2 d3 d4 e0 HW2 q8 f8 l8 R8
     (refine T_begin (fun w' => Ext W w') 32 (by kernel_rfl) ((Ext.refl _).drew) (fun hS => ?_); simp only [List.length_cons, List.length_nil])
     (refine tkA 0 HK hS ?_; (try simp only [Act.put, lSet]); refine tkA 1 HK hS ?_; (try simp only [Act.put, lSet]); refine tkA 2 HK hS ?_; (try simp only [Act.put, lSet]); refine tkA 3 HK hS ?_; (try simp only [Act.put, lSet]); refine tkA 4 HK hS ?_; (try simp only [Act.put, lSet]); refine tkA 5 HK hS ?_; (try simp only [Act.put, lSet]); refine tkA 6 HK hS ?_; (try simp only [Act.put, lSet]); refine tkA 7 HK hS ?_; (try simp only [Act.put, lSet]); refine tkA 8 HK hS ?_; (try simp only [Act.put, lSet]); refine tkA 9 HK hS ?_; (try simp only [Act.put, lSet]); refine tkA 10 HK hS ?_; (try simp only [Act.put, lSet]); refine tkA 11 HK hS ?_; (try simp only [Act.put, lSet]); refine tkA 14 HK hS ?_; (try simp only [Act.put, lSet]); refine tkA 15 HK hS ?_; (try simp only [Act.put, lSet]); refine tkA 16 HK hS ?_; (try simp only [Act.put, lSet]); refine tkA 17 HK hS ?_; (try simp only [Act.put, lSet]); refine tkA 18 HK hS ?_; (try simp only [Act.put, lSet]); refine tkA 19 HK hS ?_; (try simp only [Act.put, lSet]); refine tkA 23 HK hS ?_; (try simp only [Act.put, lSet]); refine tkA 24 HK hS ?_; (try simp only [Act.put, lSet]); refine tkA 25 HK hS ?_; (try simp only [Act.put, lSet]); refine tkA 26 HK hS ?_; (try simp only [Act.put, lSet]); refine tkA 27 HK hS ?_; (try simp only [Act.put, lSet]); refine tkA 28 HK hS ?_; (try simp only [Act.put, lSet]))
     ((refine T_takeP (i := 12) (v := ?_) rfl (by kernel_rfl) (by first | exact wanted_none rfl | kernel_rfl) (by first | exact .inr hS | exact .inl (by kernel_rfl)) ?_ ?_; rotate_left; focus (intro w; go_simp; (try rw [if_neg (by omega)]); try (with_reducible rfl))); (try simp only [Act.put, lSet]); (refine T_takeP (i := 13) (v := ?_) rfl (by kernel_rfl) (by first | exact wanted_none rfl | kernel_rfl) (by first | exact .inr hS | exact .inl (by kernel_rfl)) ?_ ?_; rotate_left; focus (intro w; go_simp; (try rw [if_neg (by omega)]); try (with_reducible rfl))); (try simp only [Act.put, lSet]))
     (refine T_only (i := 20) rfl (by kernel_rfl) rfl (fun K hK => ?_); go_simp)
     refine (HDg.out _).mono ?_
     rintro e w3 ⟨rfl, h1⟩
     have H3 := Lib.hid h1
     clear h1 hS
     (go_wp2_with fail; have hS : Ext W w3 := by exact extA); (refine hK.out _ _ (.inr hS) ?_; clear hK; (try simp only [Act.put, lSet]))
     ((refine T_takeP (i := 21) (v := ?_) rfl (by kernel_rfl) (by first | exact wanted_none rfl | kernel_rfl) (by first | exact .inr hS | exact .inl (by kernel_rfl)) ?_ ?_; rotate_left; focus (intro w; go_simp; (try rw [if_neg (by omega)]); try (with_reducible rfl))); (try simp only [Act.put, lSet]); (refine T_takeP (i := 22) (v := ?_) rfl (by kernel_rfl) (by first | exact wanted_none rfl | kernel_rfl) (by first | exact .inr hS | exact .inl (by kernel_rfl)) ?_ ?_; rotate_left; focus (intro w; go_simp; (try rw [if_neg (by omega)]); try (with_reducible rfl))); (try simp only [Act.put, lSet]))
     (refine T_only (i := 29) rfl (by kernel_rfl) rfl (fun K hK => ?_); go_simp)
     refine (HDt.out _).mono ?_
     rintro e w5 ⟨rfl, h1⟩
     have H5 := Lib.hid h1
     clear h1 hS
     (go_wp2_with fail; have hS : Ext W w5 := by exact extA); (refine hK.out _ _ (.inr hS) ?_; clear hK; (try simp only [Act.put, lSet]))
     ((refine T_takeP (i := 30) (v := ?_) rfl (by kernel_rfl) (by first | exact wanted_none rfl | kernel_rfl) (by first | exact .inr hS | exact .inl (by kernel_rfl)) ?_ ?_; rotate_left; focus (intro w; go_simp; (try rw [if_neg (by omega)]); try (with_reducible rfl))); (try simp only [Act.put, lSet]); (refine T_takeP (i := 31) (v := ?_) rfl (by kernel_rfl) (by first | exact wanted_none rfl | kernel_rfl) (by first | exact .inr hS | exact .inl (by kernel_rfl)) ?_ ?_; rotate_left; focus (intro w; go_simp; (try rw [if_neg (by omega)]); try (with_reducible rfl))); (try simp only [Act.put, lSet]))
     (refine T_only (i := 32) rfl (by kernel_rfl) rfl (fun K hK => ?_); go_simp; refine hK.out _ _ (.inl (by kernel_rfl)) ?_; clear hK; (try simp only [Act.put, lSet]); refine T_done (by kernel_rfl) ?_ _)
     have HE7 := Lib.hid (And.intro trivial (HE.out.2.trans (HWW.out.2.trans (show Ext W w5 by exact extA))))
     have HB7 := Lib.hid (show Row w5 w.heap.size #[.slice (some ⟨tb, tof, none⟩) tks.length c0, .slice (some ⟨b, o, none⟩) taps.length c, .slice (some ⟨b2, o2, none⟩) vs.length c2] from by exact rowA)
     clear hS HK
     go_wp2_with fail
     go_roundg (taps.length - (k + 1))
     case measure => omega
     case rel =>
      refine ⟨k + 1, by omega, by omega, ?_, by go_num, HE7.out.2, HB7.out⟩
      rw [HS3.out, ← bs_app ac3, ← bs_app, ← bs_app [32, 114] Dg, ← bs_app [64] Dt, show bs [32, 114] = bs [32] ++ bs [114] from (bs_app [32] [114]).symm]
      exact congrArg Value.string (str_five (bs ac3) ⟨#[32]⟩ (bs [114]) (bs Dg) ⟨#[64]⟩ (bs Dt)).symm
    ·have hv2 : vk = 2 := by omega
     subst hv2
     rw [if_neg (by decide)] at HS3
     have hq := qrc_2
     have hwr : IntKind.i64.wrap 3 = 3 := IntWalk.i64_in _ (by omega)
     have hsb := bs_size [99]
     rw [List.length_singleton] at hsb
     go_upto_region 8 with fail
     (apply wp_gen1 (w0 := wr) (g0 := w.heap.size); (focus (exact rowA)); (focus (exact extA)); intro W HW hzW Rz_0; (try simp only [lSet, World.size_alloc, size_set, World.heap_drewN, size_drew] at hzW Rz_0); have lz_0 := Rz_0.out.size)
     have HWW := Lib.hid (And.intro trivial HW.out)
     have HW2 := Lib.hid (HW.out)
     have HK := Lib.hid (fun (w' : World) (h : Ext W w') => And.intro (Row.ext h Rz_0.out).2.1 (And.intro (((HW2.out.trans h).cells _ _ hb).trans d0) (And.intro (((HW2.out.trans h).cells _ _ hb).trans d1) (And.intro (((HW2.out.trans h).cells _ _ hb).trans d2) (And.intro (((HW2.out.trans h).cells _ _ hb).trans d3) (And.intro (((HW2.out.trans h).cells _ _ hb).trans d4) ((((HW2.out.trans h).cells _ _ hb2).trans e0))))))))
     clear d0 d1 d2 d3 d4 e0 HW2 q8 f8 l8 R8
     (refine T_begin (fun w' => Ext W w') 32 (by kernel_rfl) ((Ext.refl _).drew) (fun hS => ?_); simp only [List.length_cons, List.length_nil])
     (refine tkA 0 HK hS ?_; (try simp only [Act.put, lSet]); refine tkA 1 HK hS ?_; (try simp only [Act.put, lSet]); refine tkA 2 HK hS ?_; (try simp only [Act.put, lSet]); refine tkA 3 HK hS ?_; (try simp only [Act.put, lSet]); refine tkA 4 HK hS ?_; (try simp only [Act.put, lSet]); refine tkA 5 HK hS ?_; (try simp only [Act.put, lSet]); refine tkA 6 HK hS ?_; (try simp only [Act.put, lSet]); refine tkA 7 HK hS ?_; (try simp only [Act.put, lSet]); refine tkA 8 HK hS ?_; (try simp only [Act.put, lSet]); refine tkA 9 HK hS ?_; (try simp only [Act.put, lSet]); refine tkA 10 HK hS ?_; (try simp only [Act.put, lSet]); refine tkA 11 HK hS ?_; (try simp only [Act.put, lSet]); refine tkA 14 HK hS ?_; (try simp only [Act.put, lSet]); refine tkA 15 HK hS ?_; (try simp only [Act.put, lSet]); refine tkA 16 HK hS ?_; (try simp only [Act.put, lSet]); refine tkA 17 HK hS ?_; (try simp only [Act.put, lSet]); refine tkA 18 HK hS ?_; (try simp only [Act.put, lSet]); refine tkA 19 HK hS ?_; (try simp only [Act.put, lSet]); refine tkA 23 HK hS ?_; (try simp only [Act.put, lSet]); refine tkA 24 HK hS ?_; (try simp only [Act.put, lSet]); refine tkA 25 HK hS ?_; (try simp only [Act.put, lSet]); refine tkA 26 HK hS ?_; (try simp only [Act.put, lSet]); refine tkA 27 HK hS ?_; (try simp only [Act.put, lSet]); refine tkA 28 HK hS ?_; (try simp only [Act.put, lSet]))
     ((refine T_takeP (i := 12) (v := ?_) rfl (by kernel_rfl) (by first | exact wanted_none rfl | kernel_rfl) (by first | exact .inr hS | exact .inl (by kernel_rfl)) ?_ ?_; rotate_left; focus (intro w; go_simp; (try rw [if_neg (by omega)]); try (with_reducible rfl))); (try simp only [Act.put, lSet]); (refine T_takeP (i := 13) (v := ?_) rfl (by kernel_rfl) (by first | exact wanted_none rfl | kernel_rfl) (by first | exact .inr hS | exact .inl (by kernel_rfl)) ?_ ?_; rotate_left; focus (intro w; go_simp; (try rw [if_neg (by omega)]); try (with_reducible rfl))); (try simp only [Act.put, lSet]))
     (refine T_only (i := 20) rfl (by kernel_rfl) rfl (fun K hK => ?_); go_simp)
     refine (HDg.out _).mono ?_
     rintro e w3 ⟨rfl, h1⟩
     have H3 := Lib.hid h1
     clear h1 hS
     (go_wp2_with fail; have hS : Ext W w3 := by exact extA); (refine hK.out _ _ (.inr hS) ?_; clear hK; (try simp only [Act.put, lSet]))
     ((refine T_takeP (i := 21) (v := ?_) rfl (by kernel_rfl) (by first | exact wanted_none rfl | kernel_rfl) (by first | exact .inr hS | exact .inl (by kernel_rfl)) ?_ ?_; rotate_left; focus (intro w; go_simp; (try rw [if_neg (by omega)]); try (with_reducible rfl))); (try simp only [Act.put, lSet]); (refine T_takeP (i := 22) (v := ?_) rfl (by kernel_rfl) (by first | exact wanted_none rfl | kernel_rfl) (by first | exact .inr hS | exact .inl (by kernel_rfl)) ?_ ?_; rotate_left; focus (intro w; go_simp; (try rw [if_neg (by omega)]); try (with_reducible rfl))); (try simp only [Act.put, lSet]))
     (refine T_only (i := 29) rfl (by kernel_rfl) rfl (fun K hK => ?_); go_simp)
     refine (HDt.out _).mono ?_
     rintro e w5 ⟨rfl, h1⟩
     have H5 := Lib.hid h1
     clear h1 hS
     (go_wp2_with fail; have hS : Ext W w5 := by exact extA); (refine hK.out _ _ (.inr hS) ?_; clear hK; (try simp only [Act.put, lSet]))
     ((refine T_takeP (i := 30) (v := ?_) rfl (by kernel_rfl) (by first | exact wanted_none rfl | kernel_rfl) (by first | exact .inr hS | exact .inl (by kernel_rfl)) ?_ ?_; rotate_left; focus (intro w; go_simp; (try rw [if_neg (by omega)]); try (with_reducible rfl))); (try simp only [Act.put, lSet]); (refine T_takeP (i := 31) (v := ?_) rfl (by kernel_rfl) (by first | exact wanted_none rfl | kernel_rfl) (by first | exact .inr hS | exact .inl (by kernel_rfl)) ?_ ?_; rotate_left; focus (intro w; go_simp; (try rw [if_neg (by omega)]); try (with_reducible rfl))); (try simp only [Act.put, lSet]))
     (refine T_only (i := 32) rfl (by kernel_rfl) rfl (fun K hK => ?_); go_simp; refine hK.out _ _ (.inl (by kernel_rfl)) ?_; clear hK; (try simp only [Act.put, lSet]); refine T_done (by kernel_rfl) ?_ _)
     have HE7 := Lib.hid (And.intro trivial (HE.out.2.trans (HWW.out.2.trans (show Ext W w5 by exact extA))))
     have HB7 := Lib.hid (show Row w5 w.heap.size #[.slice (some ⟨tb, tof, none⟩) tks.length c0, .slice (some ⟨b, o, none⟩) taps.length c, .slice (some ⟨b2, o2, none⟩) vs.length c2] from by exact rowA)
     clear hS HK
     go_wp2_with fail
     go_roundg (taps.length - (k + 1))
     case measure => omega
     case rel =>
      refine ⟨k + 1, by omega, by omega, ?_, by go_num, HE7.out.2, HB7.out⟩
      rw [HS3.out, ← bs_app ac3, ← bs_app, ← bs_app [32, 99] Dg, ← bs_app [64] Dt, show bs [32, 99] = bs [32] ++ bs [99] from (bs_app [32] [99]).symm]
      exact congrArg Value.string (str_five (bs ac3) ⟨#[32]⟩ (bs [99]) (bs Dg) ⟨#[64]⟩ (bs Dt)).symm
   ·have HS := Lib.hid (tapsR_no (vs := vs) hlt hx)
    have hxb : (taps[k].ticket == t0) = false := by simpa using hx
    generalize taps[k] = tp at *
    obtain ⟨y0, y1, y2, y3, y4⟩ := tp
    simp only at d0 d1 d2 d3 d4 hxb htim
    go_wp2_with fail
    go_roundg (taps.length - (k + 1))
    case measure => omega
    case rel =>
     refine ⟨k + 1, by omega, by omega, ?_, by go_num, HE.out.2.trans (by exact extA), by exact rowA⟩
     rw [HS.out]
  ·have hge : ¬ (k : Int) < (taps.length : Int) := by omega
   have HK2 := Lib.hid (show k = taps.length by omega)
   go_wp2_with fail
   go_ret
   refine ⟨congrArg (fun l => Ending.returned (Value.string (bs l))) ?_, HE.out.2⟩
   rw [HK2.out, ← HG.out, ← HDe.out.1, ← HDe.out.2]
   simp
end Go.Proofs.YteojjbhadgkfgaaDoor

/- The reference's TextOf. -/
namespace Go.Proofs.YteojjbhadgkfgaaDoor
set_option linter.unusedSimpArgs false
set_option linter.unusedVariables false
set_option maxRecDepth 100000
open Go Go.RowKit Lb

theorem lead_no (n : Nat) : Value.string ⟨#[108, 101, 97, 100, 101, 114, 32, 45, 10]⟩ = .string (bs (leadR ((n : Int), false))) := rfl
theorem lead_yes (n : Nat) : Value.string (⟨#[108, 101, 97, 100, 101, 114, 32]⟩ ++ bs (Lib.decDigits n) ++ ⟨#[10]⟩) = .string (bs (leadR ((n : Int), true))) := by
 unfold leadR
 rw [if_pos rfl, decI_nat, ← bs_app, ← bs_app, ← ByteArray.append_assoc]
 rfl
set_option maxHeartbeats 16000000 in
theorem ref_TextOf (s : St) (x : Sv) (w : World) (hr : RdS w x s) (hck : ckSt s = 0) :
  Calls Tryd.prog 11 #[.agg (sta s x)] w fun e w' => e = .returned (.string (bs (textR s))) ∧ Ext w w' := by
 obtain ⟨hL, hD, hg3, hG, hV⟩ := ckSt_ok.1 hck
 have KW := Lib.hid (fun (w' : World) (h : Ext w w') => ref_WhoOf s.views x.sv w' (hr.vw.ext h) hV)
 have KL := Lib.hid (fun (k : Nat) (hk : k < s.ledger.tickets.length) (w' : World) (h : Ext w w') => ref_LineOf s.ledger.tickets s.ledger.taps s.ledger.verdicts x.s0 x.s1 x.s2 k hk w' hL (hr.tk.ext h) (hr.tp.ext h) (hr.vd.ext h))
 have KN := Lib.hid (fun (id : Int) (w' : World) (h : Ext w w') => ref_HasInt s.denied.ids id x.si w' (hr.dn.ext h))
 have hwi := who_in hV
 have KI := Lib.hid (fun (n : Nat) (h : n < 9223372036854775808) (w' : World) => ref_Digits n h w')
 have HLE := Lib.hid (fun (k : Nat) (hk : k ≤ s.ledger.tickets.length) => textTo_len hL hwi.2 k hk)
 have h12 := (right_iff.1 hL).1
 have HTK := Lib.hid hr.tk
 have HSU := Lib.hid (fun (k : Nat) (hk : k < s.ledger.tickets.length) => textTo_succ s hk)
 have HLR := Lib.hid (fun (k : Nat) (hk : k < s.ledger.tickets.length) => lineR_len hL (List.getElem_mem hk))
 have H0 := Lib.hid (show textTo s 0 = leadR (whoV s.views) from rfl)
 obtain ⟨A0, c0, e0, -, -⟩ := hr.tk.form
 obtain ⟨A1, c1, e1, -, -⟩ := hr.tp.form
 obtain ⟨A2, c2, e2, -, -⟩ := hr.vd.form
 obtain ⟨A3, c3, e3, -, -⟩ := hr.dn.form
 obtain ⟨A4, c4, e4, -, -⟩ := hr.gt.form
 obtain ⟨A5, c5, e5, -, -⟩ := hr.vw.form
 obtain ⟨s0, s1, s2, si, sg, sv⟩ := x
 simp only at e0 e1 e2 e3 e4 e5
 subst e0 e1 e2 e3 e4 e5
 clear hr hck hL hD hg3 hG hV
 unfold sta
 simp only at KL KN KW HTK ⊢
 generalize whoV s.views = r at *
 obtain ⟨r1, r2⟩ := r
 simp only at KW hwi
 obtain ⟨n, rfl⟩ : ∃ n : Nat, r1 = n := ⟨r1.toNat, by omega⟩
 have hdn := dec_len n
 go_enter Tryd.func11, Tryd.ntmps11
 go_wp2_with fail
 (refine (KW.out _ (by exact extA)).mono ?_; rintro e w2 ⟨rfl, h2⟩; have H2 := Lib.hid h2; have hz2 := h2.size; clear h2; (try simp only [World.size_alloc, size_set, World.heap_drewN, size_drew] at hz2); apply Row.use (w := w2) (g := w.heap.size); (focus (exact rowA)); intro q2_0 f2_0 l2_0 R2_0; (try simp only [lSet] at q2_0 R2_0))
 go_upto_if 13 with fail
 go_cut [5] (fun s5 wx => s5 = .string (bs (leadR ((n : Int), r2))) ∧ Aside (Ext w2 wx))
 case first =>
  cases r2
  ·go_wp2_with fail
   go_meet
   case rel => exact ⟨lead_no n, (show Ext w2 _ by exact extA)⟩
  ·have hLY := Lib.hid (lead_yes n)
   have K1 := Lib.hid (KI.out n (by omega))
   generalize Lib.decDigits n = D at *
   have hs := bs_size D
   have hd2 : D.length ≤ 3 := by omega
   go_wp2_with fail
   (refine (K1.out _).mono ?_; rintro e w3 ⟨rfl, h3⟩; have H3 := Lib.hid h3; have hz3 := h3.size; clear h3; (try simp only [World.size_alloc, size_set, World.heap_drewN, size_drew] at hz3))
   go_wp2_with fail
   go_meet
   case rel => exact ⟨hLY.out, (show Ext w2 _ by exact extA)⟩
 case rest =>
  obtain ⟨rfl, HX⟩ := hcut
  rw [← H0.out]
  have HC := Lib.hid HX.out
  clear HX KI KW H0 hdn
  (apply Row.use (w := wc) (g := w.heap.size); (focus (exact rowA)); intro qc_0 fc_0 lc_0 Rc_0; (try simp only [lSet] at qc_0 Rc_0))
  clear q2_0 f2_0 l2_0 R2_0
  go_wp2_with fail
  go_loopg [5, 6] s.ledger.tickets.length (fun gg s5 s6 wr => ∃ k : Nat, k ≤ s.ledger.tickets.length ∧ s.ledger.tickets.length - k ≤ gg ∧ s5 = .string (bs (textTo s k)) ∧ s6 = .int .i64 k ∧ Aside (Ext w wr ∧ Row wr w.heap.size #[.slice A0 s.ledger.tickets.length c0, .slice A1 s.ledger.taps.length c1, .slice A2 s.ledger.verdicts.length c2, .int .i64 s.denied.version, .slice A3 s.denied.ids.length c3, .slice A4 s.gates.length c4, .slice A5 s.views.length c5]))
  case atStart => exact ⟨0, by omega, by omega, rfl, rfl, (show Ext w wc by exact extA), Rc_0.out⟩
  case round =>
   obtain ⟨k, hk, hgg, rfl, rfl, HV⟩ := hrel
   have HE := Lib.hid (And.intro trivial HV.out.1)
   have HB := Lib.hid HV.out.2
   clear HV qc_0 fc_0 lc_0 Rc_0 H2 HC
   apply Row.use HB.out; intro q7 f7 l7 R7
   by_cases hlt : k < s.ledger.tickets.length
   ·have hlt' : (k : Int) < (s.ledger.tickets.length : Int) := by omega
    obtain ⟨tb, tof, rfl, htb, g0, g1, g2, g3, g4, g5⟩ := (HTK.out.ext HE.out.2).tk_at rfl hlt
    have hle := HLE.out k hk
    have hlr := HLR.out k hlt
    have KL2 := Lib.hid (KL.out k hlt)
    have KN2 := Lib.hid (KN.out s.ledger.tickets[k].id)
    have HSU2 := Lib.hid (show textTo s (k + 1) = (textTo s k ++ lineR s.ledger s.ledger.tickets[k]) ++ ((if s.denied.ids.contains s.ledger.tickets[k].id = true then [33] else []) ++ [10]) from HSU.out k hlt)
    generalize textTo s k = T at *
    generalize lineR s.ledger s.ledger.tickets[k] = Li at *
    generalize s.ledger.tickets[k] = t at *
    obtain ⟨t0, t1, t2, t3, t4, t5⟩ := t
    simp only at g0 g1 g2 g3 g4 g5 KN2 HSU2
    have hk12 : k ≤ 12 := by omega
    have hab : T.length + Li.length ≤ 1000000000 := by omega
    have hs1 := bs_size T
    have hs2 := bs_size Li
    generalize s.denied.ids.contains t0 = z at *
    go_wp2_with fail
    refine (KL2.out _ (HE.out.2.trans (by exact extA))).mono ?_
    rintro e w5 ⟨rfl, h5⟩
    have H5 := Lib.hid h5
    have hz5 := h5.size
    have j0 := (h5.cells tb _ htb).trans g0
    clear h5 g0 g1 g2 g3 g4 g5
    have HB5 := Lib.hid (Row.ext H5.out R7.out)
    clear q7 f7 l7 R7 HB
    apply Row.use HB5.out; intro qb5 fb5 lb5 Rb5
    have HE5 := Lib.hid (And.intro trivial (HE.out.2.trans H5.out))
    go_upto_region 9 with fail
    go_quiet ((go_at_call 35; exact Calls.quiet_of_same ((KN2.out _ (HE5.out.2.trans (by exact extA))).mono (fun e w' h => ⟨h.1, h.2.symm⟩))))
    cases z
    ·have HSU3 := Lib.hid (show bs T ++ bs Li ++ ⟨#[10]⟩ = bs (textTo s (k + 1)) by rw [HSU2.out, ← bs_app, ← bs_app]; rfl)
     clear HSU2
     go_wp2_with fail
     go_roundg (s.ledger.tickets.length - (k + 1))
     case measure => omega
     case rel => exact ⟨k + 1, by omega, by omega, congrArg Value.string HSU3.out, by go_num, HE5.out.2.trans (show Ext w5 _ by exact extA), by exact rowA⟩
    ·have HSU3 := Lib.hid (show bs T ++ bs Li ++ ⟨#[33]⟩ ++ ⟨#[10]⟩ = bs (textTo s (k + 1)) by rw [HSU2.out, if_pos rfl, ← bs_app, ← bs_app, ← bs_app, ← ByteArray.append_assoc]; rfl)
     clear HSU2
     go_wp2_with fail
     go_roundg (s.ledger.tickets.length - (k + 1))
     case measure => omega
     case rel => exact ⟨k + 1, by omega, by omega, congrArg Value.string HSU3.out, by go_num, HE5.out.2.trans (show Ext w5 _ by exact extA), by exact rowA⟩
   ·have hge : ¬ (k : Int) < (s.ledger.tickets.length : Int) := by omega
    have HK2 := Lib.hid (show k = s.ledger.tickets.length by omega)
    go_wp2_with fail
    go_ret
    refine ⟨?_, HE.out.2⟩
    rw [HK2.out]
    rfl
end Go.Proofs.YteojjbhadgkfgaaDoor

/- What must be in any case of reports. -/
namespace Go.Proofs.YteojjbhadgkfgaaDoor
set_option linter.unusedSimpArgs false
set_option linter.unusedVariables false
set_option maxRecDepth 100000
open Go Go.RowKit Lb

theorem dI0 : decI 0 = [48] := dec_one (n := 0) (by decide)
theorem dI1 : decI 1 = [49] := dec_one (n := 1) (by decide)
theorem dI20 : decI 20 = [50, 48] := dec_two (n := 20) (by decide) (by decide)
theorem dI60 : decI 60 = [54, 48] := dec_two (n := 60) (by decide) (by decide)
def begL : List UInt8 := [32, 49, 47, 48, 32, 114, 48, 64, 50, 48, 32, 99, 49, 64, 54, 48]
def begT : List UInt8 := [32, 48, 47, 49, 10]
theorem rep_line : lineAll bookL 1 = (codeOf (single 1) ++ begL, 0) := by
 have h1 : ckLedger bookL = 0 := by decide +kernel
 have h2 : ticketOf bookL.tickets 1 = some (single 1) := by decide +kernel
 have h3 : (((ridesOf bookL.taps bookL.verdicts (single 1).id).length : Nat) : Int) = 1 := by decide +kernel
 have h4 : restOf bookL (single 1) = 0 := by decide +kernel
 have h5 : tapsR bookL.taps bookL.verdicts (single 1).id bookL.taps.length = tapR ⟨1, 0, 1, 20, 1⟩ 1 ++ tapR ⟨1, 1, 1, 60, 1⟩ 2 := rfl
 unfold lineAll
 rw [h1, h2]
 simp only [ne_eq, not_true_eq_false, if_false]
 unfold lineR headR
 rw [h3, h4, h5]
 unfold tapR
 simp only [dI0, dI1, dI20, dI60, begL]
 simp
theorem rep_text : textAll hallS = ([108, 101, 97, 100, 101, 114, 32, 48, 10] ++ (codeOf (single 1) ++ begT), 0) := by
 have h1 : ckSt hallS = 0 := by decide +kernel
 have h2 : whoV hallS.views = (0, true) := by decide +kernel
 have h3 : (((ridesOf hallS.ledger.taps hallS.ledger.verdicts (single 1).id).length : Nat) : Int) = 0 := by decide +kernel
 have h4 : restOf hallS.ledger (single 1) = 1 := by decide +kernel
 rw [textAll_ok h1]
 have h5 : textR hallS = (leadR (whoV hallS.views) ++ lineR hallS.ledger (single 1)) ++ ([] ++ [10]) := rfl
 have h6 : tapsR hallS.ledger.taps hallS.ledger.verdicts (single 1).id hallS.ledger.taps.length = [] := rfl
 rw [h5, h2]
 unfold leadR lineR headR
 rw [h3, h4, h6]
 simp only [dI0, dI1, if_true, begT]
 simp
theorem beg_line (s0 s1 s2 : Value) (w : World) (HT : TabE w) (hr0 : RdL 6 tkc w s0 bookTk) (hr1 : RdL 5 tpc w s1 bookTp) (hr2 : RdL 1 inc w s2 [1, 2]) :
  Calls Tryd.prog 5 #[.agg #[s0, s1, s2], .int .i64 1] w fun e w' => e = .returned (.tuple #[.string (bs (codeOf (single 1) ++ begL)), .int .i64 0]) ∧ Ext w w' := by
 have h := report_Line bookTk bookTp [1, 2] s0 s1 s2 1 w HT hr0 hr1 hr2
 rw [show lineAll ⟨bookTk, bookTp, [1, 2]⟩ 1 = _ from rep_line] at h
 exact h
theorem beg_text (x : Sv) (w : World) (HT : TabE w) (hr : RdS w x hallS) :
  Calls Tryd.prog 6 #[.agg (sta hallS x)] w fun e w' => e = .returned (.tuple #[.string (bs ([108, 101, 97, 100, 101, 114, 32, 48, 10] ++ (codeOf (single 1) ++ begT))), .int .i64 0]) ∧ Ext w w' := by
 have h := report_Text hallS x w HT hr
 rw [rep_text] at h
 exact h
theorem beg_code (w : World) : Calls Tryd.prog 31 #[.agg #[.int .i64 1, .int .i64 1, .int .i64 10, .int .i64 500, .int .i64 15, .int .i64 0]] w fun e w' => e = .returned (.string (bs (codeOf (single 1)))) ∧ Ext w w' :=
 ref_CodeOf (single 1) (by decide) w
theorem bs_self (a : ByteArray) : (a.toList == a.toList) = true := beq_self_eq_true _
set_option maxHeartbeats 16000000 in
theorem law_reportBegun (w : World) (HT : TabE w) :
  Calls Tryd.prog 12 #[] w fun e w' => e = .returned (.bool true) ∧ Ext w w' := by
 have KL := Lib.hid (fun (s0 s1 s2 : Value) (w' : World) (h : Ext w w') => beg_line s0 s1 s2 w' (HT.ext h))
 have KT := Lib.hid (fun (x : Sv) (w' : World) (h : Ext w w') => beg_text x w' (HT.ext h))
 have KC := Lib.hid (fun (w' : World) => beg_code w')
 have KS := Lib.hid (fun (w' : World) => law_single 1 w')
 unfold tkc single at KS
 simp only at KS
 have hc := codeOf_length (single 1)
 generalize codeOf (single 1) = C at *
 have hs := bs_size C
 rw [hc] at hs
 have e1 : ((bs (C ++ begL)).toList == (bs C ++ ⟨#[32, 49, 47, 48, 32, 114, 48, 64, 50, 48, 32, 99, 49, 64, 54, 48]⟩ : ByteArray).toList) = true := by rw [← bs_app]; exact bs_self _
 have e2 : ((bs ([108, 101, 97, 100, 101, 114, 32, 48, 10] ++ (C ++ begT))).toList == (⟨#[108, 101, 97, 100, 101, 114, 32, 48, 10]⟩ ++ bs C ++ ⟨#[32, 48, 47, 49, 10]⟩ : ByteArray).toList) = true := by
  rw [← bs_app, ← bs_app, ← ByteArray.append_assoc]; exact bs_self _
 generalize bs (C ++ begL) = B1 at *
 generalize bs ([108, 101, 97, 100, 101, 114, 32, 48, 10] ++ (C ++ begT)) = B2 at *
 clear hc
 go_enter Tryd.func12, Tryd.ntmps12
 go_wp2_with fail
 refine (law_book _).mono ?_
 rintro e w1 ⟨s0, s1, s2, rfl, h1, ha, hb, hc⟩
 have HA1 := Lib.hid ha
 have HB1 := Lib.hid hb
 have HC1 := Lib.hid hc
 obtain ⟨A0, c0, rfl, -, -⟩ := ha.form
 obtain ⟨A1, c1, rfl, -, -⟩ := hb.form
 obtain ⟨A2, c2, rfl, -, -⟩ := hc.form
 have H1 := Lib.hid h1
 clear h1 ha hb hc
 go_wp2_with fail
 (refine (KL.out _ _ _ _ (by exact extA) HA1.out HB1.out HC1.out).mono ?_; rintro e w2 ⟨rfl, h2⟩; have H2 := Lib.hid h2; have hz2 := h2.size; clear h2; (try simp only [World.size_alloc, size_set, World.heap_drewN, size_drew] at hz2))
 go_wp2_with fail
 refine (law_hall _).mono ?_
 rintro e w3 ⟨⟨t0, t1, t2, ti, tg, tv⟩, rfl, h3, ho⟩
 have HO := Lib.hid ho.rd
 have H3 := Lib.hid h3
 clear h3 ho
 go_wp2_with fail
 (refine (KT.out _ _ (by exact extA) HO.out).mono ?_; rintro e w4 ⟨rfl, h4⟩; have H4 := Lib.hid h4; have hz4 := h4.size; clear h4; (try simp only [World.size_alloc, size_set, World.heap_drewN, size_drew] at hz4))
 go_wp2_with fail
 (refine (KS.out _).mono ?_; rintro e w5 ⟨rfl, h5⟩; have H5 := Lib.hid h5; have hz5 := h5.size; clear h5; (try simp only [World.size_alloc, size_set, World.heap_drewN, size_drew] at hz5))
 go_wp2_with fail
 (refine (KC.out _).mono ?_; rintro e w6 ⟨rfl, h6⟩; have H6 := Lib.hid h6; have hz6 := h6.size; clear h6; (try simp only [World.size_alloc, size_set, World.heap_drewN, size_drew] at hz6))
 go_wp2_with fail
 (refine (KS.out _).mono ?_; rintro e w7 ⟨rfl, h7⟩; have H7 := Lib.hid h7; have hz7 := h7.size; clear h7; (try simp only [World.size_alloc, size_set, World.heap_drewN, size_drew] at hz7))
 go_wp2_with fail
 (refine (KC.out _).mono ?_; rintro e w8 ⟨rfl, h8⟩; have H8 := Lib.hid h8; have hz8 := h8.size; clear h8; (try simp only [World.size_alloc, size_set, World.heap_drewN, size_drew] at hz8))
 go_wp2_with fail
 go_ret
 exact ⟨rfl, (show Ext w _ by exact extA)⟩
end Go.Proofs.YteojjbhadgkfgaaDoor
