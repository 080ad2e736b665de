/- Codes: what is printed is parsed as it was; the mark tells one wrong sign and two that stand the other way round: the plain side. -/
import Derived.Test.YtglifpoiildpfaaCodeL
namespace Go.Proofs.Ytglifpoiildpfaa
set_option linter.unusedSimpArgs false
set_option linter.unusedVariables false
open Go Lb

theorem pn_val (a : Int) (l : List UInt8) : pn (a % 18446744073709551616) l = valNum a l % 18446744073709551616 := by
  induction l generalizing a with
  | nil => rfl
  | cons c l ih =>
    simp only [pn, valNum]
    rw [← ih]
    congr 1
    omega
theorem valNum_cd (m : Nat) (N : Int) (s : List UInt8) (h0 : 0 ≤ N) (h1 : N < 31 ^ m) : valNum 0 (cd m N s) = valNum N s := by
  induction m generalizing N s with
  | zero =>
    have : N = 0 := by simp at h1; omega
    subst this
    rfl
  | succ m ih =>
    rw [Int.pow_succ] at h1
    simp only [cd]
    rw [ih (N / 31) _ (by omega) (by omega), valNum, sgn_value _ (by omega) (by omega)]
    congr 1
    omega
theorem bytes8_num (l : List Int) (h : byteL l) (hl : l.length = 8) : bytes8 (numFrom 0 l) = l := by
  match l, hl with
  | [a, b, c, d, e, f, g, i], _ =>
    have ha := h a (by simp)
    have hb := h b (by simp)
    have hc := h c (by simp)
    have hd := h d (by simp)
    have he := h e (by simp)
    have hf := h f (by simp)
    have hg := h g (by simp)
    have hi := h i (by simp)
    simp only [numFrom, bytes8, List.cons.injEq, and_true]
    refine ⟨?_, ?_, ?_, ?_, ?_, ?_, ?_, ?_⟩ <;> omega
theorem take13_code (t : Tk) : (codeOf t).take 13 = codeDigs t := by
  unfold codeOf
  rw [List.take_append_of_le_length (by rw [codeDigs_length]; exact Nat.le_refl _), List.take_of_length_le (by rw [codeDigs_length]; exact Nat.le_refl _)]
theorem pn_code {t : Tk} (h : ckTicket t = 0) : pn 0 (codeDigs t) = numFrom 0 (tkBytes t) := by
  have hb := tkBytes_bytes (small_of_ok h)
  have h64 := num8_full _ hb (tkBytes_length t)
  have h0 := (numFrom_bound 0 (tkBytes t) (by omega) hb).1
  have h1 := pn_val 0 (codeDigs t)
  rw [show (0 : Int) % 18446744073709551616 = 0 from rfl] at h1
  rw [h1]
  unfold codeDigs
  rw [valNum_cd 13 _ [] h0 (Int.lt_trans h64 (by decide))]
  show numFrom 0 (tkBytes t) % _ = _
  omega
theorem parse_code {t : Tk} (h : ckTicket t = 0) : parseTk (codeOf t) = some t := by
  have hb := tkBytes_bytes (small_of_ok h)
  have h2 : b8 (numFrom 0 (tkBytes t)) = encodeTk t := by
    unfold b8 encodeTk
    rw [bytes8_num _ hb (tkBytes_length t), if_neg (by simpa using h)]
  unfold parseTk
  rw [if_neg (by rw [codeOf_length, codeOf_signs]; simp), take13_code, pn_code h, h2, dec_enc h]
  simp
theorem codeOf_inj {t u : Tk} (ht : ckTicket t = 0) (hu : ckTicket u = 0) : codeOf t = codeOf u ↔ t = u := by
  refine ⟨fun h => ?_, fun h => by rw [h]⟩
  have h1 := parse_code ht
  rw [h, parse_code hu] at h1
  injection h1 with h1
  exact h1.symm

/-- the sum that a mark makes right -/
def fits (l : List UInt8) : Prop := (markSum 2 (l.take 13) + valueOf (l.getD 13 0)) % 31 = 0
theorem mark_fits (S : Int) : (S + (31 - S % 31) % 31) % 31 = 0 := by omega
theorem code_fits (t : Tk) : fits (codeOf t) := by
  unfold fits
  rw [take13_code]
  have : (codeOf t).getD 13 0 = markSign (codeDigs t) := by
    unfold codeOf
    rw [List.getD_eq_getElem?_getD, List.getElem?_append_right (by rw [codeDigs_length]; exact Nat.le_refl _), codeDigs_length]
    rfl
  rw [this, markSign_value]
  exact mark_fits _
theorem parse_some {l : List UInt8} (h : parseTk l ≠ none) : l.length = 14 ∧ areSigns l = true ∧ fits l := by
  unfold parseTk at h
  by_cases h1 : l.length ≠ 14 ∨ areSigns l = false
  · rw [if_pos h1] at h
    exact absurd rfl h
  · rw [if_neg h1] at h
    by_cases h2 : (decodeTk (b8 (pn 0 (l.take 13)))).2 ≠ 0
    · rw [if_pos h2] at h
      exact absurd rfl h
    · rw [if_neg h2] at h
      by_cases h3 : codeOf (decodeTk (b8 (pn 0 (l.take 13)))).1 ≠ l
      · rw [if_pos h3] at h
        exact absurd rfl h
      · have h3 : codeOf (decodeTk (b8 (pn 0 (l.take 13)))).1 = l := Decidable.byContradiction h3
        refine ⟨?_, ?_, ?_⟩
        · rw [← h3]; exact codeOf_length _
        · rw [← h3]; exact codeOf_signs _
        · rw [← h3]; exact code_fits _
theorem markSum_set (k : Int) (l : List UInt8) (n : Nat) (h : n < l.length) (c : UInt8) : markSum k (l.set n c) = markSum k l + (valueOf c - valueOf l[n]) * (k + n) := by
  induction l generalizing k n with
  | nil => simp at h
  | cons d l ih =>
    cases n with
    | zero =>
      simp only [List.set_cons_zero, markSum, List.getElem_cons_zero]
      rw [Int.sub_mul]
      simp only [Int.natCast_zero, Int.add_zero]
      omega
    | succ n =>
      simp only [List.set_cons_succ, markSum, List.getElem_cons_succ]
      rw [ih (k + 1) n (by simpa using h), show k + 1 + (n : Int) = k + ((n + 1 : Nat) : Int) by omega]
      omega
theorem prime31 : ∀ d : Nat, d < 31 → ∀ m : Nat, m < 31 → d ≠ 0 → m ≠ 0 → d * m % 31 ≠ 0 := by decide +kernel
theorem not_mult {d m : Int} (h1 : -31 < d) (h2 : d < 31) (h3 : d ≠ 0) (h4 : 0 < m) (h5 : m < 31) : d * m % 31 ≠ 0 := by
  obtain ⟨M, rfl⟩ := Int.eq_ofNat_of_zero_le (show 0 ≤ m by omega)
  by_cases hd : 0 ≤ d
  · obtain ⟨D, rfl⟩ := Int.eq_ofNat_of_zero_le hd
    have := prime31 D (by omega) M (by omega) (by omega) (by omega)
    intro h
    apply this
    have h6 : (((D * M % 31 : Nat)) : Int) = 0 := by rw [Int.natCast_emod, Int.natCast_mul]; exact h
    omega
  · obtain ⟨D, hD⟩ := Int.eq_ofNat_of_zero_le (show 0 ≤ -d by omega)
    have := prime31 D (by omega) M (by omega) (by omega) (by omega)
    intro h
    apply this
    have h6 : (((D * M % 31 : Nat)) : Int) = 0 := by
      rw [Int.natCast_emod, Int.natCast_mul]
      have e : (D : Int) * (M : Int) = -(d * M) := by rw [← hD]; exact Int.neg_mul _ _
      show (D : Int) * (M : Int) % 31 = 0
      rw [e]; omega
    omega
theorem sign_pos {l : List UInt8} (h : areSigns l = true) (k : Nat) (hk : k < l.length) : 0 ≤ valueOf l[k] ∧ valueOf l[k] < 31 := ⟨sign_all h k hk, (valueOf_lt _).2⟩
theorem getD_eq (l : List UInt8) (n : Nat) (h : n < l.length) : l.getD n 0 = l[n] := by
  rw [List.getD_eq_getElem?_getD, List.getElem?_eq_getElem h, Option.getD_some]
/-- one sign that is another one -/
theorem one_wrong {l : List UInt8} (h14 : l.length = 14) (hs : areSigns l = true) (hf : fits l) (n : Nat) (hn : n < 14) (c : UInt8) (hc : l[n] ≠ c) : parseTk (l.set n c) = none := by
  apply Decidable.byContradiction
  intro hp
  obtain ⟨-, hs2, hf2⟩ := parse_some hp
  have hv := sign_pos hs n (by omega)
  have hv2 := sign_pos hs2 n (by rw [List.length_set]; omega)
  rw [List.getElem_set_self] at hv2
  have hne : valueOf c ≠ valueOf l[n] := fun e => hc (valueOf_inj hv.1 e.symm)
  unfold fits at hf hf2
  by_cases h13 : n < 13
  · have hlt : n < (l.take 13).length := by rw [List.length_take]; omega
    have h1 : (l.set n c).take 13 = (l.take 13).set n c := by rw [List.take_set]
    have h2 : (l.set n c).getD 13 0 = l.getD 13 0 := by
      rw [getD_eq _ _ (by rw [List.length_set]; omega), getD_eq _ _ (by omega), List.getElem_set_ne (by omega)]
    rw [h1, h2, markSum_set 2 _ n hlt, List.getElem_take] at hf2
    have := not_mult (d := valueOf c - valueOf l[n]) (m := 2 + n) (by omega) (by omega) (by omega) (by omega) (by omega)
    omega
  · obtain rfl : n = 13 := by omega
    have h1 : (l.set 13 c).take 13 = l.take 13 := by rw [List.take_set_of_le (by omega)]
    have h2 : (l.set 13 c).getD 13 0 = c := by
      rw [getD_eq _ _ (by rw [List.length_set]; omega), List.getElem_set_self]
    rw [h1, h2] at hf2
    rw [getD_eq _ _ (by omega)] at hf
    omega
/-- two unlike ones side by side that stand the other way round -/
theorem two_wrong {l : List UInt8} (h14 : l.length = 14) (hs : areSigns l = true) (hf : fits l) (n : Nat) (hn : n + 2 < 14) (hne : l[n] ≠ l[n + 1]) : parseTk ((l.set n l[n + 1]).set (n + 1) l[n]) = none := by
  apply Decidable.byContradiction
  intro hp
  obtain ⟨-, hs2, hf2⟩ := parse_some hp
  have hv := sign_pos hs n (by omega)
  have hw := sign_pos hs (n + 1) (by omega)
  have hvn : valueOf l[n] ≠ valueOf l[n + 1] := fun e => hne (valueOf_inj hv.1 e)
  unfold fits at hf hf2
  have h1 : ((l.set n l[n + 1]).set (n + 1) l[n]).take 13 = ((l.take 13).set n l[n + 1]).set (n + 1) l[n] := by rw [List.take_set, List.take_set]
  have h2 : ((l.set n l[n + 1]).set (n + 1) l[n]).getD 13 0 = l.getD 13 0 := by
    rw [getD_eq _ _ (by rw [List.length_set, List.length_set]; omega), getD_eq _ _ (by omega), List.getElem_set_ne (by omega), List.getElem_set_ne (by omega)]
  rw [h1, h2, markSum_set 2 _ (n + 1) (by rw [List.length_set, List.length_take]; omega), markSum_set 2 _ n (by rw [List.length_take]; omega), List.getElem_set_ne (by omega), List.getElem_take, List.getElem_take] at hf2
  generalize valueOf l[n] = a at *
  generalize valueOf l[n + 1] = b at *
  have e : (b - a) * (2 + (n : Int)) + (a - b) * (2 + ((n + 1 : Nat) : Int)) = a - b := by
    rw [show (2 : Int) + ((n + 1 : Nat) : Int) = (2 + (n : Int)) + 1 by omega, Int.mul_add (a - b), show b - a = -(a - b) by omega, Int.neg_mul]
    omega
  omega
/-- signs of which one is another one have another mark -/
theorem mark_other {l : List UInt8} (h20 : l.length ≤ 20) (hs : areSigns l = true) (n : Nat) (hn : n < l.length) (c : UInt8) (hc0 : 0 ≤ valueOf c) (hc : l[n] ≠ c) : areSigns (l.set n c) = true ∧ markSign (l.set n c) ≠ markSign l := by
  have hv := sign_pos hs n hn
  have hcl := (valueOf_lt c).2
  have hne : valueOf c ≠ valueOf l[n] := fun e => hc (valueOf_inj hv.1 e.symm)
  constructor
  · unfold areSigns
    rw [List.all_eq_true]
    intro x hx
    rcases List.mem_or_eq_of_mem_set hx with hx | rfl
    · unfold areSigns at hs
      rw [List.all_eq_true] at hs
      exact hs x hx
    · simpa using hc0
  · intro e
    have h1 := congrArg valueOf e
    rw [markSign_value, markSign_value] at h1
    unfold markVal at h1
    rw [markSum_set 2 l n hn] at h1
    have := not_mult (d := valueOf c - valueOf l[n]) (m := 2 + n) (by omega) (by omega) (by omega) (by omega) (by omega)
    omega
end Go.Proofs.Ytglifpoiildpfaa
