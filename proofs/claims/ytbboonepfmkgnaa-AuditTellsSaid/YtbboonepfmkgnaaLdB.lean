/- Ledgers: rides as far as so many taps; a number that is there. -/
import Derived.Test.YtbboonepfmkgnaaLdA
import Derived.Test.YtbboonepfmkgnaaLdP
import Derived.Test.YtbboonepfmkgnaaIxTap
import Derived.Test.YtbboonepfmkgnaaApp
namespace Go.Proofs.Ytbboonepfmkgnaa
set_option linter.unusedSimpArgs false
set_option linter.unusedVariables false
set_option maxRecDepth 100000
open Go Go.RowKit Lb

theorem RdL.tap_at {w : World} {v : Value} {l : List Tp} (h : RdL 5 tpc w v l) {A : Option Addr} {n c : Nat} (hv : v = .slice A n c) {k : Nat} (hk : k < l.length) : ∃ b o, A = some ⟨b, o, none⟩ ∧ b < w.heap.size ∧
    w.cell? ⟨b, o + k * 5, none⟩ = some (.int .i64 l[k].ticket) ∧ w.cell? ⟨b, o + k * 5 + 1, none⟩ = some (.int .i64 l[k].gate) ∧ w.cell? ⟨b, o + k * 5 + 2, none⟩ = some (.int .i64 l[k].seq) ∧ w.cell? ⟨b, o + k * 5 + 3, none⟩ = some (.int .i64 l[k].time) ∧ w.cell? ⟨b, o + k * 5 + 4, none⟩ = some (.int .i64 l[k].zone) := by
  subst hv
  obtain ⟨b, o, c', hv, hb, hc⟩ := h.at_ hk
  injection hv with hA
  exact ⟨b, o, hA, hb, hc 0 _ rfl, hc 1 _ rfl, hc 2 _ rfl, hc 3 _ rfl, hc 4 _ rfl⟩
theorem RdL.num_at {w : World} {v : Value} {l : List Int} (h : RdL 1 inc w v l) {A : Option Addr} {n c : Nat} (hv : v = .slice A n c) {j : Nat} (hj : j < l.length) : ∃ b o, A = some ⟨b, o, none⟩ ∧ b < w.heap.size ∧ w.cell? ⟨b, o + j, none⟩ = some (.int .i64 l[j]) := by
  subst hv
  obtain ⟨b, o, c', hv, hb, hc⟩ := h.at_ hj
  injection hv with hA
  have := hc 0 _ rfl
  rw [Nat.mul_one, Nat.add_zero] at this
  exact ⟨b, o, hA, hb, this⟩

set_option maxHeartbeats 8000000 in
theorem ledger_rides (taps : List Tp) (vs : List Int) (s0 s1 s2 : Value) (id : Int) (m : Nat) (w : World) (hmt : m ≤ taps.length) (hlen : taps.length = vs.length) (h0 : ∃ A n c, s0 = .slice A n c) (hr : RdL 5 tpc w s1 taps) (hs : RdL 1 inc w s2 vs) :
    Calls Try.prog 79 #[.agg #[s0, s1, s2], .int .i64 id, .int .i64 m] w fun e w' => ∃ s, e = .returned (.tuple #[s, .int .i64 ((ridesTo taps vs id m).length : Nat)]) ∧ Ext w w' ∧ RdL 5 tpc w' s (lastRide (ridesTo taps vs id m)) := by
  obtain ⟨A0, n0, c0, rfl⟩ := h0
  obtain ⟨A, c, rfl, hmc, hmm⟩ := hr.form
  obtain ⟨A2, c2, rfl, hmc2, hmm2⟩ := hs.form
  have hm : taps.length ≤ 9223372036854775807 := by unfold maxLen at hmm; omega
  have hmc' : (m : Int) ≤ (c : Int) := by omega
  have hm0 : (0 : Int) ≤ (m : Int) := by omega
  have HRd := Lib.hid hr
  have HSd := Lib.hid hs
  have HLEN := Lib.hid hlen
  clear hlen
  have hvl : vs.length ≤ c2 := hmc2
  clear hr hs hmm hmm2 hmc2
  go_enter Try.func79, Try.ntmps79
  go_wp2_with fail
  go_loopg [8, 9, 10, 11, 17] m (fun gg s8 s9 _ _ s17 wr => ∃ (k : Nat) (A8 : Option Addr) (c8 : Nat), k ≤ m ∧ m - k ≤ gg ∧ s8 = .slice A8 (lastRide (ridesTo taps vs id k)).length c8 ∧ s9 = .int .i64 ((ridesTo taps vs id k).length : Nat) ∧ s17 = .int .i64 k ∧ Aside (Ext w wr ∧ Row wr w.heap.size #[.slice A0 n0 c0, .slice A taps.length c, .slice A2 vs.length c2] ∧ RdL 5 tpc wr (.slice A8 (lastRide (ridesTo taps vs id k)).length c8) (lastRide (ridesTo taps vs id k))))
  case atStart =>
    refine ⟨0, none, 0, by omega, by omega, ?_, ?_, rfl, (Ext.refl _).alloc _, Row.newAt rfl, ?_⟩
    · rw [ridesTo_zero]; rfl
    · rw [ridesTo_zero]; rfl
    · rw [ridesTo_zero]; exact RdL.nil
  case round =>
    obtain ⟨k, A8, c8, hk, hg, rfl, rfl, rfl, HV⟩ := hrel
    have HE := Lib.hid HV.out.1
    have HR0 := Lib.hid HV.out.2.1
    have H8 := Lib.hid HV.out.2.2
    clear HV
    (apply Row.use (w := wr) (g := w.heap.size); (focus (repeat (first | (with_reducible exact Hid.out ‹Hid (Row _ _ _)›) | (with_reducible exact Row.newAt rfl) | (with_reducible apply Row.newAt; (simp; done)) | (with_reducible apply Row.set_) | (with_reducible apply Row.far; focus (simp <;> omega)) | (with_reducible apply Row.alloc) | (with_reducible apply Row.drew) | (with_reducible apply Row.drewN) | (with_reducible apply Row.ext (Hid.out ‹Hid (Ext _ _)›))))); intro qr_0 fr_0 lr_0 Rr_0; (try simp only [List.setIfInBounds_toArray, List.set_cons_zero, List.set_cons_succ] at qr_0 Rr_0))
    by_cases hlt : k < m
    · have hlt' : (k : Int) < (m : Int) := by omega
      have hkt : k < taps.length := by omega
      have hkv : k < vs.length := by have := HLEN.out; omega
      have hkv' : (k : Int) < (vs.length : Int) := by omega
      obtain ⟨b, o, rfl, hb, d0, d1, d2, d3, d4⟩ := (HRd.out.ext HE.out).tap_at rfl hkt
      obtain ⟨b2, o2, rfl, hb2, f0⟩ := (HSd.out.ext HE.out).num_at rfl hkv
      have hsu := ridesTo_succ taps vs id k hkt hkv
      have hle := ridesTo_len taps vs id k
      generalize hR : ridesTo taps vs id k = R at *
      generalize hR2 : ridesTo taps vs id (k + 1) = R2 at *
      have hws : IntKind.i64.wrap ((R.length : Int) + 1) = ((R.length + 1 : Nat) : Int) := by rw [IntWalk.i64_in _ (by omega)]; omega
      have HR2 := Lib.hid hR2
      clear hR hR2
      generalize taps[k] = p at *
      generalize vs[k] = y at *
      obtain ⟨x0, x1, x2, x3, x4⟩ := p
      simp only at d0 d1 d2 d3 d4 hsu
      by_cases hx : x0 = id
      · have hxb : (x0 == id) = true := by simpa using hx
        by_cases hy : y = 1
        · have hyb : (y == 1) = true := by simpa using hy
          rw [hxb, hyb] at hsu
          have HSU := Lib.hid (show R2 = R ++ [⟨x0, x1, x2, x3, x4⟩] from hsu)
          clear hsu hx hy
          go_wp2_with fail
          (try (go_quiet (fail); go_wp2_with fail))
          go_roundg (m - (k + 1))
          case measure => omega
          case rel =>
            refine ⟨k + 1, some ⟨wr.heap.size + 1, 0, none⟩, 1, by omega, by omega, ?_, ?_, by go_num, ⟨(show Ext w _ by repeat (first | (with_reducible exact Ext.refl _) | (with_reducible refine Ext.alloc ?_ _) | (with_reducible apply Ext.setC; focus (simp <;> omega)) | (with_reducible refine Ext.drew ?_) | (with_reducible refine Ext.drewN ?_ _) | (with_reducible refine Ext.trans ?_ (Hid.out ‹Hid (Ext _ _)›)))), by repeat (first | (with_reducible exact Hid.out ‹Hid (Row _ _ _)›) | (with_reducible exact Row.newAt rfl) | (with_reducible apply Row.newAt; (simp; done)) | (with_reducible apply Row.set_) | (with_reducible apply Row.far; focus (simp <;> omega)) | (with_reducible apply Row.alloc) | (with_reducible apply Row.drew) | (with_reducible apply Row.drewN) | (with_reducible apply Row.ext (Hid.out ‹Hid (Ext _ _)›))), ?_⟩⟩
            · rw [HR2.out, HSU.out, lastRide_snoc]; rfl
            · rw [HR2.out, HSU.out]; simp
            · rw [HR2.out, HSU.out, lastRide_snoc]
              exact RdL.lit (enc := tpc) ⟨x0, x1, x2, x3, x4⟩ (by simp) rfl
        · have hyb : (y == 1) = false := by simpa using hy
          rw [hxb, hyb] at hsu
          have HSU := Lib.hid (show R2 = R from hsu)
          clear hsu hx hy
          go_wp2_with fail
          (try (go_quiet (fail); go_wp2_with fail))
          go_roundg (m - (k + 1))
          case measure => omega
          case rel => exact ⟨k + 1, _, _, by omega, by omega, by rw [HR2.out, HSU.out], by rw [HR2.out, HSU.out], by go_num, ⟨(show Ext w _ by repeat (first | (with_reducible exact Ext.refl _) | (with_reducible refine Ext.alloc ?_ _) | (with_reducible apply Ext.setC; focus (simp <;> omega)) | (with_reducible refine Ext.drew ?_) | (with_reducible refine Ext.drewN ?_ _) | (with_reducible refine Ext.trans ?_ (Hid.out ‹Hid (Ext _ _)›)))), by repeat (first | (with_reducible exact Hid.out ‹Hid (Row _ _ _)›) | (with_reducible exact Row.newAt rfl) | (with_reducible apply Row.newAt; (simp; done)) | (with_reducible apply Row.set_) | (with_reducible apply Row.far; focus (simp <;> omega)) | (with_reducible apply Row.alloc) | (with_reducible apply Row.drew) | (with_reducible apply Row.drewN) | (with_reducible apply Row.ext (Hid.out ‹Hid (Ext _ _)›))), by rw [HR2.out, HSU.out]; exact H8.out.ext (by repeat (first | (with_reducible exact Ext.refl _) | (with_reducible refine Ext.alloc ?_ _) | (with_reducible apply Ext.setC; focus (simp <;> omega)) | (with_reducible refine Ext.drew ?_) | (with_reducible refine Ext.drewN ?_ _) | (with_reducible refine Ext.trans ?_ (Hid.out ‹Hid (Ext _ _)›))))⟩⟩
      · have hxb : (x0 == id) = false := by simpa using hx
        rw [hxb] at hsu
        have HSU := Lib.hid (show R2 = R from hsu)
        clear hsu hx
        go_wp2_with fail
        (try (go_quiet (fail); go_wp2_with fail))
        go_roundg (m - (k + 1))
        case measure => omega
        case rel => exact ⟨k + 1, _, _, by omega, by omega, by rw [HR2.out, HSU.out], by rw [HR2.out, HSU.out], by go_num, ⟨(show Ext w _ by repeat (first | (with_reducible exact Ext.refl _) | (with_reducible refine Ext.alloc ?_ _) | (with_reducible apply Ext.setC; focus (simp <;> omega)) | (with_reducible refine Ext.drew ?_) | (with_reducible refine Ext.drewN ?_ _) | (with_reducible refine Ext.trans ?_ (Hid.out ‹Hid (Ext _ _)›)))), by repeat (first | (with_reducible exact Hid.out ‹Hid (Row _ _ _)›) | (with_reducible exact Row.newAt rfl) | (with_reducible apply Row.newAt; (simp; done)) | (with_reducible apply Row.set_) | (with_reducible apply Row.far; focus (simp <;> omega)) | (with_reducible apply Row.alloc) | (with_reducible apply Row.drew) | (with_reducible apply Row.drewN) | (with_reducible apply Row.ext (Hid.out ‹Hid (Ext _ _)›))), by rw [HR2.out, HSU.out]; exact H8.out.ext (by repeat (first | (with_reducible exact Ext.refl _) | (with_reducible refine Ext.alloc ?_ _) | (with_reducible apply Ext.setC; focus (simp <;> omega)) | (with_reducible refine Ext.drew ?_) | (with_reducible refine Ext.drewN ?_ _) | (with_reducible refine Ext.trans ?_ (Hid.out ‹Hid (Ext _ _)›))))⟩⟩
    · have hge : ¬ (k : Int) < (m : Int) := by omega
      have hkm : k = m := by omega
      subst hkm
      go_wp2_with fail
      refine bodyPost_ret (v := .tuple #[.slice A8 (lastRide (ridesTo taps vs id k)).length c8, .int .i64 ((ridesTo taps vs id k).length : Nat)]) (by simp [results, Try.results79, go_sem, *]) rfl ⟨_, rfl, HE.out, H8.out⟩

/-- the last ride's time, or -1 -/
def lastInt (l : List Tp) : Int := match l.getLast? with
  | none => -1
  | some x => x.time
theorem lastInt_snoc (l : List Tp) (p : Tp) : lastInt (l ++ [p]) = p.time := by simp [lastInt]

set_option maxHeartbeats 8000000 in
theorem ref_ManyOf (taps : List Tp) (vs : List Int) (s0 s1 s2 : Value) (id : Int) (m : Nat) (w : World) (hmt : m ≤ taps.length) (hlen : taps.length = vs.length) (h0 : ∃ A n c, s0 = .slice A n c) (hr : RdL 5 tpc w s1 taps) (hs : RdL 1 inc w s2 vs) :
    Calls Try.prog 20 #[.agg #[s0, s1, s2], .int .i64 id, .int .i64 m] w fun e w' => e = .returned (.tuple #[.int .i64 ((ridesTo taps vs id m).length : Nat), .int .i64 (lastInt (ridesTo taps vs id m))]) ∧ Ext w w' := by
  obtain ⟨A0, n0, c0, rfl⟩ := h0
  obtain ⟨A, c, rfl, hmc, hmm⟩ := hr.form
  obtain ⟨A2, c2, rfl, hmc2, hmm2⟩ := hs.form
  have hm : taps.length ≤ 9223372036854775807 := by unfold maxLen at hmm; omega
  have HRd := Lib.hid hr
  have HSd := Lib.hid hs
  have HLEN := Lib.hid hlen
  clear hlen
  clear hr hs hmm hmm2 hmc2 hmc
  go_enter Try.func20, Try.ntmps20
  go_wp2_with fail
  go_loopg [8, 9, 10] m (fun gg s8 s9 s10 wr => ∃ (k : Nat), k ≤ m ∧ m - k ≤ gg ∧ s8 = .int .i64 ((ridesTo taps vs id k).length : Nat) ∧ s9 = .int .i64 (lastInt (ridesTo taps vs id k)) ∧ s10 = .int .i64 k ∧ Aside (Ext w wr ∧ Row wr w.heap.size #[.slice A0 n0 c0, .slice A taps.length c, .slice A2 vs.length c2]))
  case atStart =>
    refine ⟨0, by omega, by omega, ?_, ?_, rfl, (Ext.refl _).alloc _, Row.newAt rfl⟩
    · rw [ridesTo_zero]; rfl
    · rw [ridesTo_zero]; rfl
  case round =>
    obtain ⟨k, hk, hg, rfl, rfl, rfl, HV⟩ := hrel
    have HE := Lib.hid HV.out.1
    have HR0 := Lib.hid HV.out.2
    clear HV
    (apply Row.use (w := wr) (g := w.heap.size); (focus (repeat (first | (with_reducible exact Hid.out ‹Hid (Row _ _ _)›) | (with_reducible exact Row.newAt rfl) | (with_reducible apply Row.newAt; (simp; done)) | (with_reducible apply Row.set_) | (with_reducible apply Row.far; focus (simp <;> omega)) | (with_reducible apply Row.alloc) | (with_reducible apply Row.drew) | (with_reducible apply Row.drewN) | (with_reducible apply Row.ext (Hid.out ‹Hid (Ext _ _)›))))); intro qr_0 fr_0 lr_0 Rr_0; (try simp only [List.setIfInBounds_toArray, List.set_cons_zero, List.set_cons_succ] at qr_0 Rr_0))
    by_cases hlt : k < m
    · have hlt' : (k : Int) < (m : Int) := by omega
      have hkt : k < taps.length := by omega
      have hkt' : (k : Int) < (taps.length : Int) := by omega
      have hkv : k < vs.length := by have := HLEN.out; omega
      have hkv' : (k : Int) < (vs.length : Int) := by omega
      obtain ⟨b, o, rfl, hb, d0, -, -, d3, -⟩ := (HRd.out.ext HE.out).tap_at rfl hkt
      obtain ⟨b2, o2, rfl, hb2, f0⟩ := (HSd.out.ext HE.out).num_at rfl hkv
      have hsu := ridesTo_succ taps vs id k hkt hkv
      have hle := ridesTo_len taps vs id k
      generalize hR : ridesTo taps vs id k = R at *
      generalize hR2 : ridesTo taps vs id (k + 1) = R2 at *
      have hws : IntKind.i64.wrap ((R.length : Int) + 1) = ((R.length + 1 : Nat) : Int) := by rw [IntWalk.i64_in _ (by omega)]; omega
      have HR2 := Lib.hid hR2
      clear hR hR2
      generalize taps[k] = p at *
      generalize vs[k] = y at *
      obtain ⟨x0, x1, x2, x3, x4⟩ := p
      simp only at d0 d3 hsu
      by_cases hx : x0 = id
      · have hxb : (x0 == id) = true := by simpa using hx
        by_cases hy : y = 1
        · have hyb : (y == 1) = true := by simpa using hy
          rw [hxb, hyb] at hsu
          have HSU := Lib.hid (show R2 = R ++ [⟨x0, x1, x2, x3, x4⟩] from hsu)
          clear hsu hx hy
          go_wp2_with fail
          (try (go_quiet (fail); go_wp2_with fail))
          go_roundg (m - (k + 1))
          case measure => omega
          case rel =>
            refine ⟨k + 1, by omega, by omega, ?_, ?_, by go_num, ⟨(show Ext w _ by repeat (first | (with_reducible exact Ext.refl _) | (with_reducible refine Ext.alloc ?_ _) | (with_reducible apply Ext.setC; focus (simp <;> omega)) | (with_reducible refine Ext.drew ?_) | (with_reducible refine Ext.drewN ?_ _) | (with_reducible refine Ext.trans ?_ (Hid.out ‹Hid (Ext _ _)›)))), by repeat (first | (with_reducible exact Hid.out ‹Hid (Row _ _ _)›) | (with_reducible exact Row.newAt rfl) | (with_reducible apply Row.newAt; (simp; done)) | (with_reducible apply Row.set_) | (with_reducible apply Row.far; focus (simp <;> omega)) | (with_reducible apply Row.alloc) | (with_reducible apply Row.drew) | (with_reducible apply Row.drewN) | (with_reducible apply Row.ext (Hid.out ‹Hid (Ext _ _)›)))⟩⟩
            · rw [HR2.out, HSU.out]; simp
            · rw [HR2.out, HSU.out, lastInt_snoc]
        · have hyb : (y == 1) = false := by simpa using hy
          rw [hxb, hyb] at hsu
          have HSU := Lib.hid (show R2 = R from hsu)
          clear hsu hx hy
          go_wp2_with fail
          (try (go_quiet (fail); go_wp2_with fail))
          go_roundg (m - (k + 1))
          case measure => omega
          case rel => exact ⟨k + 1, by omega, by omega, by rw [HR2.out, HSU.out], by rw [HR2.out, HSU.out], by go_num, ⟨(show Ext w _ by repeat (first | (with_reducible exact Ext.refl _) | (with_reducible refine Ext.alloc ?_ _) | (with_reducible apply Ext.setC; focus (simp <;> omega)) | (with_reducible refine Ext.drew ?_) | (with_reducible refine Ext.drewN ?_ _) | (with_reducible refine Ext.trans ?_ (Hid.out ‹Hid (Ext _ _)›)))), by repeat (first | (with_reducible exact Hid.out ‹Hid (Row _ _ _)›) | (with_reducible exact Row.newAt rfl) | (with_reducible apply Row.newAt; (simp; done)) | (with_reducible apply Row.set_) | (with_reducible apply Row.far; focus (simp <;> omega)) | (with_reducible apply Row.alloc) | (with_reducible apply Row.drew) | (with_reducible apply Row.drewN) | (with_reducible apply Row.ext (Hid.out ‹Hid (Ext _ _)›)))⟩⟩
      · have hxb : (x0 == id) = false := by simpa using hx
        rw [hxb] at hsu
        have HSU := Lib.hid (show R2 = R from hsu)
        clear hsu hx
        go_wp2_with fail
        (try (go_quiet (fail); go_wp2_with fail))
        go_roundg (m - (k + 1))
        case measure => omega
        case rel => exact ⟨k + 1, by omega, by omega, by rw [HR2.out, HSU.out], by rw [HR2.out, HSU.out], by go_num, ⟨(show Ext w _ by repeat (first | (with_reducible exact Ext.refl _) | (with_reducible refine Ext.alloc ?_ _) | (with_reducible apply Ext.setC; focus (simp <;> omega)) | (with_reducible refine Ext.drew ?_) | (with_reducible refine Ext.drewN ?_ _) | (with_reducible refine Ext.trans ?_ (Hid.out ‹Hid (Ext _ _)›)))), by repeat (first | (with_reducible exact Hid.out ‹Hid (Row _ _ _)›) | (with_reducible exact Row.newAt rfl) | (with_reducible apply Row.newAt; (simp; done)) | (with_reducible apply Row.set_) | (with_reducible apply Row.far; focus (simp <;> omega)) | (with_reducible apply Row.alloc) | (with_reducible apply Row.drew) | (with_reducible apply Row.drewN) | (with_reducible apply Row.ext (Hid.out ‹Hid (Ext _ _)›)))⟩⟩
    · have hge : ¬ (k : Int) < (m : Int) := by omega
      have hkm : k = m := by omega
      subst hkm
      go_wp2_with fail
      go_ret2
      exact ⟨rfl, HE.out⟩
end Go.Proofs.Ytbboonepfmkgnaa
