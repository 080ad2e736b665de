/- code.Text. -/
import Derived.Test.YtglifpoiildpfaaCodeI
namespace Go.Proofs.Ytglifpoiildpfaa
set_option linter.unusedSimpArgs false
set_option linter.unusedVariables false
open Go Go.RowKit Lb

theorem numFrom_take (a : Int) (l : List Int) (i : Nat) (h : i < l.length) : numFrom a (l.take (i + 1)) = 256 * numFrom a (l.take i) + l[i] := by
  rw [List.take_succ_eq_append_getElem h, numFrom_append]
  rfl

theorem shl_or {N x : Int} (h0 : 0 ≤ N) (h1 : N < 72057594037927936) (h2 : 0 ≤ x) (h3 : x < 256) : bits .or .u64 (IntKind.u64.wrap (N * 256)) x = 256 * N + x := by
  rw [IntKind.wrap_u64, u64_or _ _ (by omega) (by omega) (by omega) (by omega)]
  rw [show N * 256 % 18446744073709551616 = N * 256 from by omega]
  obtain ⟨n, rfl⟩ := Int.eq_ofNat_of_zero_le h0
  obtain ⟨y, rfl⟩ := Int.eq_ofNat_of_zero_le h2
  have := Nat.shiftLeft_add_eq_or_of_lt (i := 8) (b := y) (by omega) n
  rw [Nat.shiftLeft_eq] at this
  have h : ((n : Int) * 256).toNat = n * 2 ^ 8 := by omega
  rw [h, Int.toNat_natCast, ← this]
  omega
theorem BRow.of_row {w : World} {g : Nat} {xs : List Int} (h : Row w g (xs.map (Value.int .u8)).toArray) : BRow w g xs :=
  ⟨h.1, fun j hj => by rw [h.2.1 j]; simp [hj], fun j _ => h.2.2 j⟩
theorem BRow.conv_run {w : World} {g n c : Nat} {xs : List Int} (h : BRow w g xs) (hn : xs.length = n) :
    (convert 50 9 (.slice (some ⟨g, 0, none⟩) n c)).run Try.prog w = .ok (.string (strOfNums xs)) w :=
  run_convert_bytes_arg w 50 5 Try.underlying50 Try.underlying5 g 0 n c xs hn (fun i hi => by
    rw [Nat.zero_add, h.2.1 i (by omega)]
    simp [List.getD, show i < xs.length by omega]) 9 Try.underlying9
theorem strOfNums_back (l : List UInt8) : strOfNums (l.map fun c => (c.toNat : Int)) = bs l := by
  rw [strOfNums_bs, List.map_map]
  congr 1
  have : ((fun n : Int => UInt8.ofNat n.toNat) ∘ fun c : UInt8 => (c.toNat : Int)) = id := by
    funext c
    simp
  rw [this, List.map_id]
theorem num8_lt (l : List Int) (h : byteL l) (k : Nat) (hk : k < 8) : 0 ≤ numFrom 0 (l.take k) ∧ numFrom 0 (l.take k) < 72057594037927936 := by
  have h1 := numFrom_bound 0 (l.take k) (by omega) (fun x hx => h x (List.mem_of_mem_take hx))
  refine ⟨h1.1, Int.lt_of_lt_of_le h1.2 ?_⟩
  rw [show (0 + 1 : Int) = 1 from rfl, Int.one_mul]
  have h2 : 256 ^ (l.take k).length ≤ 256 ^ 7 := Nat.pow_le_pow_right (by omega) (by rw [List.length_take]; omega)
  have h3 : (((256 ^ (l.take k).length : Nat)) : Int) ≤ ((256 ^ 7 : Nat) : Int) := by exact Int.ofNat_le.2 h2
  rw [Int.natCast_pow] at h3
  exact h3

theorem sign_get' (m : Nat) (h : m < 31) (h' : m < (ByteArray.mk #[48, 49, 50, 51, 52, 53, 54, 55, 56, 57, 65, 66, 67, 68, 69, 70, 71, 72, 74, 75, 76, 77, 78, 80, 81, 82, 83, 84, 85, 86, 87]).size) :
    (ByteArray.mk #[48, 49, 50, 51, 52, 53, 54, 55, 56, 57, 65, 66, 67, 68, 69, 70, 71, 72, 74, 75, 76, 77, 78, 80, 81, 82, 83, 84, 85, 86, 87])[m] = signs.getD m 0 := sign_get m h
theorem u64_quo {N : Int} (h0 : 0 ≤ N) (h1 : N < 18446744073709551616) : IntKind.u64.wrap (N.tdiv 31) = N / 31 := by
  rw [IntKind.wrap_u64, Int.tdiv_eq_ediv_of_nonneg h0]
  omega
theorem num8_full (l : List Int) (h : byteL l) (hl : l.length = 8) : numFrom 0 l < 18446744073709551616 := by
  have h1 := (numFrom_bound 0 l (by omega) h).2
  rw [hl] at h1
  exact h1

set_option maxHeartbeats 4000000 in
theorem code_Text (t : Tk) (h0 : ckTicket t = 0) (w : World) :
    Calls Try.prog 49 #[.agg (tkc t)] w fun e w' => e = .returned (.string (bs (codeOf t))) ∧ Ext w w' := by
  have hs := small_of_ok h0
  have hc := fun w => ticket_Bytes t w hs
  have hmk := fun s (h : s.length ≤ 20) ha w => code_mark s h ha w
  have hby := tkBytes_bytes hs
  have hlen := tkBytes_length t
  have hD : cd 13 (numFrom 0 (tkBytes t)) [] = codeDigs t := rfl
  have hDl := codeDigs_length t
  have hDs := codeDigs_signs t
  unfold codeOf
  generalize codeDigs t = D at hD hDl hDs ⊢
  generalize tkBytes t = L0 at hc hby hlen hD
  obtain ⟨a, b, c, d, e, f⟩ := t
  simp only [tkc] at hc ⊢
  have HC := Lib.hid hc
  have HMK := Lib.hid hmk
  have HBY := Lib.hid hby
  have HD := Lib.hid hD
  have HDl := Lib.hid hDl
  have HDs := Lib.hid hDs
  have HLN := Lib.hid hlen
  clear hc hmk hby hD hDl hDs hlen hs h0
  go_enter Try.func49, Try.ntmps49
  go_wp2_with fail
  refine (HC.out _).mono ?_
  rintro e w1 ⟨v, rfl, h1, h2⟩
  obtain ⟨g, cap, hv, hg, hgs⟩ := h2.form (by omega)
  subst hv
  have hcell : ∀ i (hi : i < L0.length), w1.cell? ⟨g, i, none⟩ = some (.int .u8 L0[i]) := by
    intro i hi
    have hln := HLN.out
    rw [h2.cellAt i (by omega)]
    simp [hi]
  have HCE := Lib.hid hcell
  have H1 := Lib.hid h1
  clear h1 h2 hcell
  go_wp2_with fail
  go_loopg [3, 5, 12] 8 (fun gg s3 _ s12 wr => wr = w1 ∧ ∃ (k : Nat) (N : Int), k ≤ 8 ∧ 8 - k ≤ gg ∧ s3 = .int .u64 N ∧ s12 = .int .i64 k ∧ Aside (N = numFrom 0 (L0.take k)))
  case atStart => exact ⟨rfl, 0, 0, by omega, by omega, rfl, rfl, rfl⟩
  case round =>
    obtain ⟨rfl, k, N, hk, hgk, rfl, rfl, HN⟩ := hrel
    by_cases hlt : k < 8
    · have hlt' : (k : Int) < 8 := by omega
      have hkl : k < L0.length := by rw [HLN.out]; exact hlt
      have hc1 := HCE.out k hkl
      have hxb := HBY.out L0[k] (List.getElem_mem hkl)
      have hnt := numFrom_take 0 L0 k hkl
      have hnb := num8_lt L0 HBY.out k hlt
      rw [← HN.out] at hnt hnb
      generalize L0[k] = x at hc1 hxb hnt
      have HV := Lib.hid ((shl_or hnb.1 hnb.2 hxb.1 hxb.2).trans hnt.symm)
      clear hkl hnt hnb HN
      go_wp2_with fail
      go_roundg (8 - (k + 1))
      case measure => omega
      case rel => exact ⟨rfl, k + 1, _, by omega, by omega, by rw [HV.out], by go_num, rfl⟩
    · have hge : ¬ (k : Int) < 8 := by omega
      have hke : k = L0.length := by rw [HLN.out]; omega
      have hN := HN.out
      rw [hke, List.take_length] at hN
      have hN0 := (numFrom_bound 0 L0 (by omega) HBY.out).1
      rw [← hN] at hN0
      have HN64 := Lib.hid (num8_full L0 HBY.out HLN.out)
      rw [← hN] at HN64
      have hD2 := HD.out
      rw [← hN] at hD2
      have HD2 := Lib.hid hD2
      clear hke hN hD2 HN HD
      go_wp2_with fail
      have HD1 : Hid (areSigns D = true ∧ D.length = 13) := ⟨HDs.out, HDl.out⟩
      clear HDs HDl HCE HBY
      obtain ⟨wa, rfl⟩ : ∃ wa : World, wa = wr := ⟨_, rfl⟩
      go_loopg [3, 7, 22] 13 (fun gg s3 _ s22 w2 => ∃ (k : Nat) (N : Int) (l : List UInt8) (ys : List Int), k ≤ 13 ∧ 13 - k ≤ gg ∧ s3 = .int .u64 N ∧ s22 = .int .i64 k ∧ 0 ≤ N ∧ Aside (N < 18446744073709551616 ∧ l.length = k ∧ cd (13 - k) N l = D) ∧ Aside (ys.length = 13 ∧ ys.drop (13 - k) = l.map fun c => (c.toNat : Int)) ∧ Aside (Ext w w2 ∧ BRow w2 wa.heap.size ys))
      case atStart =>
        refine ⟨0, N, [], List.replicate 13 0, by omega, by omega, rfl, rfl, hN0, ⟨HN64.out, rfl, HD2.out⟩, ⟨by simp, by simp⟩, by repeat (first | (with_reducible exact Ext.refl _) | (with_reducible refine Ext.alloc ?_ _) | (with_reducible apply Ext.setC; focus (simp <;> omega)) | (with_reducible refine Ext.drew ?_) | (with_reducible refine Ext.drewN ?_ _) | (with_reducible refine Ext.trans ?_ (Hid.out ‹Hid (Ext _ _)›))), BRow.of_row (Row.newAt rfl)⟩
      case round =>
        clear hN0 HD2
        obtain ⟨k, N, l, ys, hk, hgk, rfl, rfl, hN0, HL, HY, HW⟩ := hrel
        by_cases hlt : k < 13
        · obtain ⟨hN64, hlk, hcd⟩ := HL.out
          obtain ⟨hyl, hyd⟩ := HY.out
          obtain ⟨hE, hR⟩ := HW.out
          have hlt' : (k : Int) < 13 := by omega
          obtain ⟨m, hm⟩ := Int.eq_ofNat_of_zero_le (show 0 ≤ N % 31 by omega)
          have hm31 : m < 31 := by omega
          have hm31' : (m : Int) < 31 := by omega
          have hcd2 : cd (13 - (k + 1)) (N / 31) (signs.getD m 0 :: l) = D := by
            rw [← hcd, show 13 - k = 13 - (k + 1) + 1 from by omega, cd, hm]
            rfl
          obtain ⟨j, hj⟩ : ∃ j, k + j = 12 := ⟨12 - k, by omega⟩
          have hji : (12 : Int) - k = (j : Int) := by omega
          have hset := hR.set_ j (by omega) ((signs.getD m 0).toNat : Int)
          have hjc := hR.2.1 j (by omega)
          have hjf := hR.2.2 j (by omega)
          have hyd2 : (ys.set j ((signs.getD m 0).toNat : Int)).drop (13 - (k + 1)) = (signs.getD m 0 :: l).map fun c => (c.toNat : Int) := by
            rw [show 13 - (k + 1) = j by omega, List.drop_eq_getElem_cons (by rw [List.length_set]; omega), List.getElem_set_self, List.drop_set, if_pos (by omega), show j + 1 = 13 - k by omega, hyd]
            rfl
          have hsg := sign_get' m hm31
          generalize ys[j] = yj at hjc
          generalize signs.getD m 0 = ch at hset hcd2 hyd2 hsg
          have hN2 : 0 ≤ N / 31 := by omega
          have HQ := Lib.hid (u64_quo hN0 hN64)
          have HN2 := Lib.hid (show N / 31 < 18446744073709551616 by omega)
          have HSET := Lib.hid hset
          have HCD := Lib.hid hcd2
          have HYD := Lib.hid hyd2
          have HLK := Lib.hid hlk
          have HYL := Lib.hid hyl
          have HE := Lib.hid hE
          have hj13 : (j : Int) < 13 := by omega
          have HJ := Lib.hid hj
          clear hset hcd2 hyd2 hlk hyl hcd hyd hE hR HL HY HW hj hN64
          go_wp2_with fail
          go_roundg (13 - (k + 1))
          case measure => omega
          case rel =>
            refine ⟨k + 1, N / 31, ch :: l, ys.set j (ch.toNat : Int), by omega, by omega, by rw [HQ.out], by go_num, hN2, ⟨HN2.out, by rw [List.length_cons, HLK.out], HCD.out⟩, ⟨by rw [List.length_set, HYL.out], HYD.out⟩, ?_, HSET.out⟩
            exact HE.out.setCell (by simp; exact Nat.le_trans (by simp) H1.out.size) _
        · have hge : ¬ (k : Int) < 13 := by omega
          have hk13 : k = 13 := by omega
          obtain ⟨hN64, hlk, hcd⟩ := HL.out
          obtain ⟨hyl, hyd⟩ := HY.out
          obtain ⟨hE, hR⟩ := HW.out
          rw [hk13] at hcd hyd
          have hcd : l = D := hcd
          have hyd : ys = l.map fun c => (c.toNat : Int) := hyd
          rw [hyd, hcd] at hR
          have hrun := fun c => hR.conv_run (n := 13) (c := c) (by rw [List.length_map]; exact HD1.out.2)
          rw [strOfNums_back] at hrun
          have hmk := fun w => HMK.out D (by have := HD1.out.2; omega) HD1.out.1 w
          have hs1 := bs_size [markSign D]
          have hs2 := bs_size D
          have hD13 : D.length ≤ 13 := by have := HD1.out.2; omega
          rw [List.length_singleton] at hs1
          generalize hMM : markSign D = mk at hs1 hmk
          have HMM := Lib.hid hMM
          have HMK := Lib.hid hmk
          have HE := Lib.hid hE
          clear hyd hcd hlk hyl hE HL HY HW hk13 hmk hMM hR HD1 hN64
          go_wp2_with fail
          refine (HMK.out _).mono ?_
          rintro e w3 ⟨rfl, h3⟩
          have H3 := Lib.hid h3
          clear h3
          go_wp2_with fail
          go_ret
          refine ⟨ret_string ?_, HE.out.trans H3.out⟩
          rw [HMM.out]
          simp [bs, ByteArray.ext_iff]
end Go.Proofs.Ytglifpoiildpfaa
