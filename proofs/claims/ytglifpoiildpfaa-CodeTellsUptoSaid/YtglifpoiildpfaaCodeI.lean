/- ref.CodeOf. -/
import Derived.Test.YtglifpoiildpfaaCodeH
import Derived.Test.YtglifpoiildpfaaCodeG
namespace Go.Proofs.Ytglifpoiildpfaa
set_option linter.unusedSimpArgs false
set_option linter.unusedVariables false
open Go Go.RowKit Lb

/-- Block g is a row of bytes that may be written. -/
def BRow (w : World) (g : Nat) (xs : List Int) : Prop :=
  g < w.heap.size ∧ (∀ j (hj : j < xs.length), w.cell? ⟨g, j, none⟩ = some (.int .u8 xs[j])) ∧ (∀ j, j < xs.length → w.frozen? ⟨g, j, none⟩ = false)
theorem BRow.ext {w w' : World} {g : Nat} {xs : List Int} (h : BRow w g xs) (he : Ext w w') : BRow w' g xs :=
  ⟨Nat.lt_of_lt_of_le h.1 he.size, fun j hj => (he.cells g j h.1).trans (h.2.1 j hj), fun j hj => (he.frozs g j h.1).trans (h.2.2 j hj)⟩
theorem BRow.set_ {w : World} {g : Nat} {xs : List Int} (h : BRow w g xs) (i : Nat) (hi : i < xs.length) (x : Int) : BRow (w.setCell ⟨g, i, none⟩ (.int .u8 x)) g (xs.set i x) := by
  refine ⟨by rw [size_set]; exact h.1, fun j hj => ?_, fun j hj => ?_⟩
  · rw [List.length_set] at hj
    by_cases e : i = j
    · subst e
      rw [World.cell?_setCell_same _ _ _ (h.2.1 i hi)]
      simp
    · rw [World.cell?_setCell_other _ _ _ _ (by simp [e]), h.2.1 j hj]
      simp [List.getElem_set, e]
  · rw [List.length_set] at hj
    simpa [go_sem] using h.2.2 j hj
theorem BRow.drew {w : World} {g : Nat} {xs : List Int} (h : BRow w g xs) : BRow w.drew g xs := h
theorem BRow.conv {w : World} (l : List UInt8) (c : Nat) :
    BRow (w.alloc (.cells (bytesRow (bs l) c) 5 ((bytesRow (bs l) c).size, (bytesRow (bs l) c).size + 1))) w.heap.size (l.map fun c => (c.toNat : Int)) := by
  generalize hX : bytesRow (bs l) c = X
  have hh : (w.alloc (.cells X 5 (X.size, X.size + 1))).heap[w.heap.size]? = some (.cells X 5 (X.size, X.size + 1)) := heap_alloc_new w _
  have hsz : l.length ≤ X.size := by rw [← hX]; simp [bytesRow, bs]
  refine ⟨by simp, fun j hj => ?_, fun j hj => ?_⟩
  · rw [cell_of_row _ _ j X 5 _ hh]
    rw [List.length_map] at hj
    rw [← hX]
    unfold bytesRow
    rw [Array.getElem?_append_left (by simpa [bs] using hj)]
    simp [bs, hj]
  · rw [List.length_map] at hj
    unfold World.frozen?
    simp only [hh]
    simp
    omega
theorem toNum_bytes (l : List UInt8) : byteL (l.map fun c => (c.toNat : Int)) := by
  intro x hx
  obtain ⟨c, -, rfl⟩ := List.mem_map.1 hx
  have := c.toNat_lt
  simp at this
  omega
theorem tkBytes_bytes {t : Tk} (hs : small t) : byteL (tkBytes t) := by
  unfold small at hs
  intro x hx
  simp only [tkBytes, bytes2, List.flatMap_cons, List.flatMap_nil, List.append_nil, List.cons_append, List.nil_append, List.mem_cons, List.not_mem_nil, or_false] at hx
  omega
theorem nums_back (l : List Int) (h : byteL l) : (l.map fun n => UInt8.ofNat n.toNat).map (fun c => (c.toNat : Int)) = l := by
  induction l with
  | nil => rfl
  | cons b l ih =>
    have hb := h b (by simp)
    rw [List.map_cons, List.map_cons, ih (fun y hy => h y (by simp [hy]))]
    congr 1
    simp
    omega

theorem divs_snoc (r : Int) (l : List Int) (i : Nat) (h : i < l.length) : ∃ r', rest r (l.take i) = r' ∧ rest r (l.take (i + 1)) = (256 * r' + l[i]) % 31 ∧ divs r (l.take (i + 1)) = divs r (l.take i) ++ [(256 * r' + l[i]) / 31] := by
  induction l generalizing r i with
  | nil => simp at h
  | cons b l ih =>
    cases i with
    | zero => exact ⟨r, rfl, rfl, rfl⟩
    | succ i =>
      obtain ⟨r', h1, h2, h3⟩ := ih ((256 * r + b) % 31) i (by simpa using h)
      refine ⟨r', ?_, ?_, ?_⟩
      · simpa [rest] using h1
      · simpa [rest] using h2
      · simpa [divs] using h3
/-- the row in the midst of a division: i bytes are divided -/
def mid (l : List Int) (i : Nat) : List Int := divs 0 (l.take i) ++ l.drop i
theorem mid_length (l : List Int) (i : Nat) (h : i ≤ l.length) : (mid l i).length = l.length := by
  unfold mid
  rw [List.length_append, divs_length, List.length_take, List.length_drop]; omega
theorem mid_get (l : List Int) (i : Nat) (h : i < l.length) : (mid l i)[i]'(by rw [mid_length l i (by omega)]; exact h) = l[i] := by
  have hl : (divs 0 (l.take i)).length = i := by rw [divs_length, List.length_take]; omega
  simp only [mid]
  rw [List.getElem_append_right (by omega)]
  simp [hl]
theorem mid_set (l : List Int) (i : Nat) (h : i < l.length) : (mid l i).set i ((256 * rest 0 (l.take i) + l[i]) / 31) = mid l (i + 1) := by
  obtain ⟨r', h1, h2, h3⟩ := divs_snoc 0 l i h
  have hl : (divs 0 (l.take i)).length = i := by rw [divs_length, List.length_take]; omega
  unfold mid
  rw [h3, h1, List.set_append_right _ _ (by omega), hl, Nat.sub_self, List.drop_eq_getElem_cons h, List.set_cons_zero, List.append_assoc]
  rfl
theorem rest_snoc (l : List Int) (i : Nat) (h : i < l.length) : rest 0 (l.take (i + 1)) = (256 * rest 0 (l.take i) + l[i]) % 31 := by
  obtain ⟨r', h1, h2, h3⟩ := divs_snoc 0 l i h
  rw [h2, h1]
theorem str_cons (c : UInt8) (s : List UInt8) : bs [c] ++ bs s = bs (c :: s) := by
  simp [bs, ByteArray.ext_iff]

set_option maxHeartbeats 4000000 in
theorem ref_CodeOf (t : Tk) (h0 : ckTicket t = 0) (w : World) :
    Calls Try.prog 29 #[.agg (tkc t)] w fun e w' => e = .returned (.string (bs (codeOf t))) ∧ Ext w w' := by
  have hs := small_of_ok h0
  have hc := fun w => ref_TicketBytes t w hs
  have hmk := fun s (h : s.length ≤ 20) w => ref_MarkOf s h w
  have hcv := fun (w : World) (s : ByteArray) => run_bytes_of_string (P := Try.prog) w 9 50 5 s Try.underlying9 Try.underlying50 Try.underlying5
  have hnb := nums_back _ (tkBytes_bytes hs)
  have hby := tkBytes_bytes hs
  have hlen := tkBytes_length t
  have hD : cd 13 (numFrom 0 (tkBytes t)) [] = codeDigs t := rfl
  rw [strOfNums_bs] at hc
  unfold codeOf
  have hDl := codeDigs_length t
  generalize codeDigs t = D at hD hDl ⊢
  generalize tkBytes t = L0 at hc hnb hby hlen hD
  have hsz := bs_size (L0.map fun n => UInt8.ofNat n.toNat)
  rw [List.length_map, hlen] at hsz
  obtain ⟨a, b, c, d, e, f⟩ := t
  simp only [tkc] at hc ⊢
  have HC := Lib.hid hc
  have HMK := Lib.hid hmk
  have HNB := Lib.hid hnb
  have HBY := Lib.hid hby
  have HD := Lib.hid hD
  have HDl := Lib.hid hDl
  have HLN := Lib.hid hlen
  clear hc hmk hnb hby hD hDl hlen hs h0
  go_enter Try.func29, Try.ntmps29
  go_wp2_with fail
  refine (HC.out _).mono ?_
  rintro e w1 ⟨rfl, h1⟩
  have H1 := Lib.hid h1
  clear h1
  go_wp2_with fail
  go_loopg [4, 5, 6, 7, 8] 13 (fun gg s4 s5 _ _ _ wr => ∃ (k : Nat) (l : List UInt8) (xs : List Int), k ≤ 13 ∧ 13 - k ≤ gg ∧ s4 = .string (bs l) ∧ s5 = .int .i64 k ∧ Aside (xs.length = 8 ∧ byteL xs ∧ l.length = k ∧ cd (13 - k) (numFrom 0 xs) l = D) ∧ Aside (Ext w wr ∧ BRow wr w1.heap.size xs))
  case atStart =>
    refine ⟨0, [], L0, by omega, by omega, rfl, rfl, ⟨HLN.out, HBY.out, rfl, HD.out⟩, by repeat (first | (with_reducible exact Ext.refl _) | (with_reducible refine Ext.alloc ?_ _) | (with_reducible apply Ext.setC; focus (simp <;> omega)) | (with_reducible refine Ext.drew ?_) | (with_reducible refine Ext.drewN ?_ _) | (with_reducible refine Ext.trans ?_ (Hid.out ‹Hid (Ext _ _)›))), ?_⟩
    have := BRow.conv (w := w1) (L0.map fun n => UInt8.ofNat n.toNat) (grownCap w1 8 0 5)
    rw [HNB.out] at this
    exact this.drew
  case round =>
    obtain ⟨k, l, xs, hk, hg, rfl, rfl, HX, HW⟩ := hrel
    obtain ⟨hx8, hxb, hlk, hxd⟩ := HX.out
    have hlk := Lib.hid hlk
    obtain ⟨hE, hR⟩ := HW.out
    by_cases hlt : k < 13
    · have hlt' : (k : Int) < 13 := by omega
      have HX8 := Lib.hid hx8
      have HXB := Lib.hid hxb
      have HXD := Lib.hid hxd
      have HR := Lib.hid hR
      have HE := Lib.hid hE
      clear hx8 hxb hxd hR hE HX HW
      go_wp2_with fail
      obtain ⟨wo, hwo⟩ : ∃ wo : World, wo = wr := ⟨_, rfl⟩
      go_loopg [6, 7, 8] 8 (fun gg s6 s7 _ w2 => ∃ (i : Nat), i ≤ 8 ∧ 8 - i ≤ gg ∧ s6 = .int .i64 (rest 0 (xs.take i)) ∧ s7 = .int .i64 i ∧ Aside (Ext w w2 ∧ BRow w2 w1.heap.size (mid xs i)))
      case atStart => exact ⟨0, by omega, by omega, rfl, rfl, HE.out, by simpa [mid, divs] using HR.out⟩
      case round =>
        obtain ⟨i, hi, hgi, rfl, rfl, HW⟩ := hrel
        by_cases hi8 : i < 8
        · have hi8' : (i : Int) < 8 := by omega
          obtain ⟨hE2, hR2⟩ := HW.out
          have hix : i < xs.length := by rw [HX8.out]; exact hi8
          have hl := mid_length xs i (by omega)
          have hcell := hR2.2.1 i (by omega)
          have hfz := hR2.2.2 i (by omega)
          rw [mid_get xs i hix] at hcell
          have hset := hR2.set_ i (by omega) ((256 * rest 0 (xs.take i) + xs[i]) / 31)
          rw [mid_set xs i hix] at hset
          have hrs := rest_snoc xs i hix
          have hb := HXB.out xs[i] (List.getElem_mem hix)
          have hr := rest_lt 0 (xs.take i) (by omega) (by omega)
          have hgs := hR2.1
          generalize xs[i] = x at hcell hset hrs hb
          generalize rest 0 (xs.take i) = r at hset hrs hr ⊢
          have HSET := Lib.hid hset
          have HRS := Lib.hid hrs
          have HE2 := Lib.hid hE2
          clear hset hrs hE2 hR2 HW hl hix hwo
          go_wp2_with fail
          go_roundg (8 - (i + 1))
          case measure => omega
          case rel =>
            refine ⟨i + 1, by omega, by omega, by rw [HRS.out], by go_num, ?_, HSET.out⟩
            exact HE2.out.setCell (by simp; exact Nat.le_trans (by simp) H1.out.size) _
        · have hi8' : ¬ (i : Int) < 8 := by omega
          have hie : i = xs.length := by rw [HX8.out]; omega
          obtain ⟨hE2, hR2⟩ := HW.out
          have hnd := num_divs xs
          have hrl := rest_lt 0 xs (by omega) (by omega)
          have hdb := divs_bytes 0 xs (by omega) (by omega) HXB.out
          have hdl : (divs 0 xs).length = 8 := by rw [divs_length]; exact HX8.out
          rw [hie] at hR2 ⊢
          rw [List.take_length]
          simp only [mid, List.take_length, List.drop_length, List.append_nil] at hR2
          obtain ⟨m, hm⟩ := Int.eq_ofNat_of_zero_le hrl.1
          have hm31 : m < 31 := by omega
          have hm31' : (m : Int) < 31 := by omega
          have hsl := sign_slice' m hm31
          have hcd : cd (13 - (k + 1)) (numFrom 0 (divs 0 xs)) (signs.getD m 0 :: l) = D := by
            rw [← HXD.out, show 13 - k = 13 - (k + 1) + 1 from by omega, cd, hnd.1, ← hnd.2, hm]
            rfl
          rw [hm]
          have hs1 := bs_size [signs.getD m 0]
          have hs2 := bs_size l
          have hl13 : l.length ≤ 13 := by have := hlk.out; omega
          rw [List.length_singleton] at hs1
          generalize signs.getD m 0 = c at hsl hcd hs1
          have HCD := Lib.hid hcd
          have HDB := Lib.hid hdb
          have HDL := Lib.hid hdl
          have HE2 := Lib.hid hE2
          have HR2 := Lib.hid hR2
          clear hcd hdb hdl hE2 hR2 hnd hrl hm HW hwo
          have hx8 := HX8.out
          rw [hx8]
          clear hie hx8
          go_wp2_with fail
          go_roundg (13 - (k + 1))
          case measure => omega
          case rel =>
            exact ⟨k + 1, c :: l, divs 0 xs, by omega, by omega, by rw [str_cons], by go_num, ⟨HDL.out, HDB.out, by rw [List.length_cons, hlk.out], HCD.out⟩, HE2.out, HR2.out⟩
    · have hge : ¬ (k : Int) < 13 := by omega
      have hk13 : k = 13 := by omega
      rw [hk13] at hxd
      have hxd : l = D := hxd
      rw [hxd]
      have HE := Lib.hid hE
      have hsz2 := HE.out.size
      have hmk := fun w => HMK.out D (by have := HDl.out; omega) w
      have hs1 := bs_size [markSign D]
      have hs2 := bs_size D
      have hD13 : D.length ≤ 13 := by have := HDl.out; omega
      rw [List.length_singleton] at hs1
      generalize hMM : markSign D = mk at hs1 hmk
      have HMM := Lib.hid hMM
      have HMK := Lib.hid hmk
      clear hxd hxb hx8 hE hR HX HW hk13 hmk hMM hlk
      go_wp2_with fail
      refine (HMK.out _).mono ?_
      rintro e w3 ⟨rfl, rfl⟩
      go_wp2_with fail
      go_ret
      refine ⟨ret_string ?_, HE.out⟩
      rw [HMM.out]
      simp [bs, ByteArray.ext_iff]
end Go.Proofs.Ytglifpoiildpfaa
