/- Kx: parts of the proofs, laid together. -/
import Derived.Test.YteojjbhadgkfgaaGreatKa
import Derived.Test.YteojjbhadgkfgaaGreatKs
import Derived.Test.YteojjbhadgkfgaaGreatKu
import Derived.Test.YteojjbhadgkfgaaGreatKt
import Derived.Test.YteojjbhadgkfgaaGreatKw
set_option maxHeartbeats 64000000
namespace Go.Proofs.YteojjbhadgkfgaaGreat
set_option linter.unusedSimpArgs false
set_option linter.unusedVariables false
set_option maxRecDepth 100000
open Go Go.RowKit Lb

theorem stood_tk : Tryz.prog.stoodInHeld 34 = false := by kernel_rfl

theorem neq_tk' (a b c d e f a' b' c' d' e' f' : Int) (W : World) :
  (binOp .neq 34 (.agg #[.int .i64 a, .int .i64 b, .int .i64 c, .int .i64 d, .int .i64 e, .int .i64 f]) (.agg #[.int .i64 a', .int .i64 b', .int .i64 c', .int .i64 d', .int .i64 e', .int .i64 f'])).run Tryz.prog W = .ok (.bool (!decide ((⟨a, b, c, d, e, f⟩ : Tk) = ⟨a', b', c', d', e', f'⟩))) W := by
 simp [go_sem, stood_tk]
 repeat' split
 all_goals simp_all

theorem desk_form (a : Ac) (w : World) :
  Calls Tryz.prog 146 #[.agg (acc a)] w fun e w' => e = .returned (.int .i64 (formA a)) ∧ Ext w w' := by
 obtain ⟨k, id, of, time, ⟨t0, t1, t2, t3, t4, t5⟩⟩ := a
 have hn := neq_tk' t0 t1 t2 t3 t4 t5 0 0 0 0 0 0
 unfold acc
 simp only
 by_cases hk1 : k < 1
 ·have HQ := Lib.hid (show formA ⟨k, id, of, time, ⟨t0, t1, t2, t3, t4, t5⟩⟩ = 7 by unfold formA; rw [if_pos (.inl hk1)])
  go_enter Tryz.func146, Tryz.ntmps146
  go_wp2_with fail
  go_quiet (fail)
  go_wp2_with fail
  go_ret
  exact ⟨ret_int HQ.out.symm, (extA : Ext w _)⟩
 by_cases hk7 : k > 7
 ·have HQ := Lib.hid (show formA ⟨k, id, of, time, ⟨t0, t1, t2, t3, t4, t5⟩⟩ = 7 by unfold formA; rw [if_pos (.inr hk7)])
  go_enter Tryz.func146, Tryz.ntmps146
  go_wp2_with fail
  go_quiet (fail)
  go_wp2_with fail
  go_ret
  exact ⟨ret_int HQ.out.symm, (extA : Ext w _)⟩
 obtain rfl | rfl | rfl | rfl | rfl | rfl | rfl : k = 1 ∨ k = 2 ∨ k = 3 ∨ k = 4 ∨ k = 5 ∨ k = 6 ∨ k = 7 := by omega
 ·by_cases hid : id = 0
  case neg =>
   have hidb : (id != 0) = true := by simpa using hid
   have HQ := Lib.hid (show formA ⟨1, id, of, time, ⟨t0, t1, t2, t3, t4, t5⟩⟩ = 1 by unfold formA; simp [tk0, hid])
   go_enter Tryz.func146, Tryz.ntmps146
   go_wp2_with fail
   go_quiet (fail)
   go_wp2_with fail
   go_ret
   exact ⟨ret_int HQ.out.symm, (extA : Ext w _)⟩
  subst hid
  by_cases hof : of = 0
  case neg =>
   have hofb : (of != 0) = true := by simpa using hof
   have HQ := Lib.hid (show formA ⟨1, 0, of, time, ⟨t0, t1, t2, t3, t4, t5⟩⟩ = 1 by unfold formA; simp [tk0, hof])
   go_enter Tryz.func146, Tryz.ntmps146
   go_wp2_with fail
   go_quiet (fail)
   go_wp2_with fail
   go_ret
   exact ⟨ret_int HQ.out.symm, (extA : Ext w _)⟩
  subst hof
  by_cases htime : time = 0
  case neg =>
   have htimeb : (time != 0) = true := by simpa using htime
   have HQ := Lib.hid (show formA ⟨1, 0, 0, time, ⟨t0, t1, t2, t3, t4, t5⟩⟩ = 1 by unfold formA; simp [tk0, htime])
   go_enter Tryz.func146, Tryz.ntmps146
   go_wp2_with fail
   go_quiet (fail)
   go_wp2_with fail
   go_ret
   exact ⟨ret_int HQ.out.symm, (extA : Ext w _)⟩
  subst htime
  have HQ := Lib.hid (show formA ⟨1, 0, 0, 0, ⟨t0, t1, t2, t3, t4, t5⟩⟩ = 0 by unfold formA; simp [tk0])
  go_enter Tryz.func146, Tryz.ntmps146
  go_wp2_with fail
  go_quiet (fail)
  go_wp2_with fail
  go_ret
  exact ⟨ret_int HQ.out.symm, (extA : Ext w _)⟩
 ·by_cases hT : (⟨t0, t1, t2, t3, t4, t5⟩ : Tk) = ⟨0, 0, 0, 0, 0, 0⟩
  case neg =>
   rw [decide_eq_false hT] at hn
   have HQ := Lib.hid (show formA ⟨2, id, of, time, ⟨t0, t1, t2, t3, t4, t5⟩⟩ = 1 by unfold formA; simp only [tk0]; simp [hT])
   go_enter Tryz.func146, Tryz.ntmps146
   go_wp2_with fail
   go_quiet (fail)
   go_wp2_with fail
   go_ret
   exact ⟨ret_int HQ.out.symm, (extA : Ext w _)⟩
  rw [decide_eq_true hT] at hn
  have HQ := Lib.hid (show formA ⟨2, id, of, time, ⟨t0, t1, t2, t3, t4, t5⟩⟩ = 0 by unfold formA; simp [tk0, hT])
  go_enter Tryz.func146, Tryz.ntmps146
  go_wp2_with fail
  go_quiet (fail)
  go_wp2_with fail
  go_ret
  exact ⟨ret_int HQ.out.symm, (extA : Ext w _)⟩
 ·by_cases hT : (⟨t0, t1, t2, t3, t4, t5⟩ : Tk) = ⟨0, 0, 0, 0, 0, 0⟩
  case neg =>
   rw [decide_eq_false hT] at hn
   have HQ := Lib.hid (show formA ⟨3, id, of, time, ⟨t0, t1, t2, t3, t4, t5⟩⟩ = 1 by unfold formA; simp only [tk0]; simp [hT])
   go_enter Tryz.func146, Tryz.ntmps146
   go_wp2_with fail
   go_quiet (fail)
   go_wp2_with fail
   go_ret
   exact ⟨ret_int HQ.out.symm, (extA : Ext w _)⟩
  rw [decide_eq_true hT] at hn
  by_cases hof : of = 0
  case neg =>
   have hofb : (of != 0) = true := by simpa using hof
   have HQ := Lib.hid (show formA ⟨3, id, of, time, ⟨t0, t1, t2, t3, t4, t5⟩⟩ = 1 by unfold formA; simp [tk0, hT, hof])
   go_enter Tryz.func146, Tryz.ntmps146
   go_wp2_with fail
   go_quiet (fail)
   go_wp2_with fail
   go_ret
   exact ⟨ret_int HQ.out.symm, (extA : Ext w _)⟩
  subst hof
  by_cases htime : time = 0
  case neg =>
   have htimeb : (time != 0) = true := by simpa using htime
   have HQ := Lib.hid (show formA ⟨3, id, 0, time, ⟨t0, t1, t2, t3, t4, t5⟩⟩ = 1 by unfold formA; simp [tk0, hT, htime])
   go_enter Tryz.func146, Tryz.ntmps146
   go_wp2_with fail
   go_quiet (fail)
   go_wp2_with fail
   go_ret
   exact ⟨ret_int HQ.out.symm, (extA : Ext w _)⟩
  subst htime
  have HQ := Lib.hid (show formA ⟨3, id, 0, 0, ⟨t0, t1, t2, t3, t4, t5⟩⟩ = 0 by unfold formA; simp [tk0, hT])
  go_enter Tryz.func146, Tryz.ntmps146
  go_wp2_with fail
  go_quiet (fail)
  go_wp2_with fail
  go_ret
  exact ⟨ret_int HQ.out.symm, (extA : Ext w _)⟩
 ·by_cases hT : (⟨t0, t1, t2, t3, t4, t5⟩ : Tk) = ⟨0, 0, 0, 0, 0, 0⟩
  case neg =>
   rw [decide_eq_false hT] at hn
   have HQ := Lib.hid (show formA ⟨4, id, of, time, ⟨t0, t1, t2, t3, t4, t5⟩⟩ = 1 by unfold formA; simp only [tk0]; simp [hT])
   go_enter Tryz.func146, Tryz.ntmps146
   go_wp2_with fail
   go_quiet (fail)
   go_wp2_with fail
   go_ret
   exact ⟨ret_int HQ.out.symm, (extA : Ext w _)⟩
  rw [decide_eq_true hT] at hn
  by_cases hid : id = 0
  case neg =>
   have hidb : (id != 0) = true := by simpa using hid
   have HQ := Lib.hid (show formA ⟨4, id, of, time, ⟨t0, t1, t2, t3, t4, t5⟩⟩ = 1 by unfold formA; simp [tk0, hT, hid])
   go_enter Tryz.func146, Tryz.ntmps146
   go_wp2_with fail
   go_quiet (fail)
   go_wp2_with fail
   go_ret
   exact ⟨ret_int HQ.out.symm, (extA : Ext w _)⟩
  subst hid
  have HQ := Lib.hid (show formA ⟨4, 0, of, time, ⟨t0, t1, t2, t3, t4, t5⟩⟩ = 0 by unfold formA; simp [tk0, hT])
  go_enter Tryz.func146, Tryz.ntmps146
  go_wp2_with fail
  go_quiet (fail)
  go_wp2_with fail
  go_ret
  exact ⟨ret_int HQ.out.symm, (extA : Ext w _)⟩
 ·by_cases hT : (⟨t0, t1, t2, t3, t4, t5⟩ : Tk) = ⟨0, 0, 0, 0, 0, 0⟩
  case neg =>
   rw [decide_eq_false hT] at hn
   have HQ := Lib.hid (show formA ⟨5, id, of, time, ⟨t0, t1, t2, t3, t4, t5⟩⟩ = 1 by unfold formA; simp only [tk0]; simp [hT])
   go_enter Tryz.func146, Tryz.ntmps146
   go_wp2_with fail
   go_quiet (fail)
   go_wp2_with fail
   go_ret
   exact ⟨ret_int HQ.out.symm, (extA : Ext w _)⟩
  rw [decide_eq_true hT] at hn
  by_cases hid : id = 0
  case neg =>
   have hidb : (id != 0) = true := by simpa using hid
   have HQ := Lib.hid (show formA ⟨5, id, of, time, ⟨t0, t1, t2, t3, t4, t5⟩⟩ = 1 by unfold formA; simp [tk0, hT, hid])
   go_enter Tryz.func146, Tryz.ntmps146
   go_wp2_with fail
   go_quiet (fail)
   go_wp2_with fail
   go_ret
   exact ⟨ret_int HQ.out.symm, (extA : Ext w _)⟩
  subst hid
  by_cases htime : time = 0
  case neg =>
   have htimeb : (time != 0) = true := by simpa using htime
   have HQ := Lib.hid (show formA ⟨5, 0, of, time, ⟨t0, t1, t2, t3, t4, t5⟩⟩ = 1 by unfold formA; simp [tk0, hT, htime])
   go_enter Tryz.func146, Tryz.ntmps146
   go_wp2_with fail
   go_quiet (fail)
   go_wp2_with fail
   go_ret
   exact ⟨ret_int HQ.out.symm, (extA : Ext w _)⟩
  subst htime
  have HQ := Lib.hid (show formA ⟨5, 0, of, 0, ⟨t0, t1, t2, t3, t4, t5⟩⟩ = 0 by unfold formA; simp [tk0, hT])
  go_enter Tryz.func146, Tryz.ntmps146
  go_wp2_with fail
  go_quiet (fail)
  go_wp2_with fail
  go_ret
  exact ⟨ret_int HQ.out.symm, (extA : Ext w _)⟩
 ·by_cases hT : (⟨t0, t1, t2, t3, t4, t5⟩ : Tk) = ⟨0, 0, 0, 0, 0, 0⟩
  case neg =>
   rw [decide_eq_false hT] at hn
   have HQ := Lib.hid (show formA ⟨6, id, of, time, ⟨t0, t1, t2, t3, t4, t5⟩⟩ = 1 by unfold formA; simp only [tk0]; simp [hT])
   go_enter Tryz.func146, Tryz.ntmps146
   go_wp2_with fail
   go_quiet (fail)
   go_wp2_with fail
   go_ret
   exact ⟨ret_int HQ.out.symm, (extA : Ext w _)⟩
  rw [decide_eq_true hT] at hn
  by_cases hid : id = 0
  case neg =>
   have hidb : (id != 0) = true := by simpa using hid
   have HQ := Lib.hid (show formA ⟨6, id, of, time, ⟨t0, t1, t2, t3, t4, t5⟩⟩ = 1 by unfold formA; simp [tk0, hT, hid])
   go_enter Tryz.func146, Tryz.ntmps146
   go_wp2_with fail
   go_quiet (fail)
   go_wp2_with fail
   go_ret
   exact ⟨ret_int HQ.out.symm, (extA : Ext w _)⟩
  subst hid
  by_cases htime : time = 0
  case neg =>
   have htimeb : (time != 0) = true := by simpa using htime
   have HQ := Lib.hid (show formA ⟨6, 0, of, time, ⟨t0, t1, t2, t3, t4, t5⟩⟩ = 1 by unfold formA; simp [tk0, hT, htime])
   go_enter Tryz.func146, Tryz.ntmps146
   go_wp2_with fail
   go_quiet (fail)
   go_wp2_with fail
   go_ret
   exact ⟨ret_int HQ.out.symm, (extA : Ext w _)⟩
  subst htime
  have HQ := Lib.hid (show formA ⟨6, 0, of, 0, ⟨t0, t1, t2, t3, t4, t5⟩⟩ = 0 by unfold formA; simp [tk0, hT])
  go_enter Tryz.func146, Tryz.ntmps146
  go_wp2_with fail
  go_quiet (fail)
  go_wp2_with fail
  go_ret
  exact ⟨ret_int HQ.out.symm, (extA : Ext w _)⟩
 ·by_cases hT : (⟨t0, t1, t2, t3, t4, t5⟩ : Tk) = ⟨0, 0, 0, 0, 0, 0⟩
  case neg =>
   rw [decide_eq_false hT] at hn
   have HQ := Lib.hid (show formA ⟨7, id, of, time, ⟨t0, t1, t2, t3, t4, t5⟩⟩ = 1 by unfold formA; simp only [tk0]; simp [hT])
   go_enter Tryz.func146, Tryz.ntmps146
   go_wp2_with fail
   go_quiet (fail)
   go_wp2_with fail
   go_ret
   exact ⟨ret_int HQ.out.symm, (extA : Ext w _)⟩
  rw [decide_eq_true hT] at hn
  by_cases hid : id = 0
  case neg =>
   have hidb : (id != 0) = true := by simpa using hid
   have HQ := Lib.hid (show formA ⟨7, id, of, time, ⟨t0, t1, t2, t3, t4, t5⟩⟩ = 1 by unfold formA; simp [tk0, hT, hid])
   go_enter Tryz.func146, Tryz.ntmps146
   go_wp2_with fail
   go_quiet (fail)
   go_wp2_with fail
   go_ret
   exact ⟨ret_int HQ.out.symm, (extA : Ext w _)⟩
  subst hid
  by_cases htime : time = 0
  case neg =>
   have htimeb : (time != 0) = true := by simpa using htime
   have HQ := Lib.hid (show formA ⟨7, 0, of, time, ⟨t0, t1, t2, t3, t4, t5⟩⟩ = 1 by unfold formA; simp [tk0, hT, htime])
   go_enter Tryz.func146, Tryz.ntmps146
   go_wp2_with fail
   go_quiet (fail)
   go_wp2_with fail
   go_ret
   exact ⟨ret_int HQ.out.symm, (extA : Ext w _)⟩
  subst htime
  have HQ := Lib.hid (show formA ⟨7, 0, of, 0, ⟨t0, t1, t2, t3, t4, t5⟩⟩ = 0 by unfold formA; simp [tk0, hT])
  go_enter Tryz.func146, Tryz.ntmps146
  go_wp2_with fail
  go_quiet (fail)
  go_wp2_with fail
  go_ret
  exact ⟨ret_int HQ.out.symm, (extA : Ext w _)⟩

theorem far7 {g p : Nat} {w : World} {cs : Array Value} {v0 v1 v2 v3 v4 v5 v6 : Value} (h : p ≠ g) (r : Row w p cs) : Row (((((((w.setCell ⟨g, 0, none⟩ v0).setCell ⟨g, 1, none⟩ v1).setCell ⟨g, 2, none⟩ v2).setCell ⟨g, 3, none⟩ v3).setCell ⟨g, 4, none⟩ v4).setCell ⟨g, 5, none⟩ v5).setCell ⟨g, 6, none⟩ v6) p cs :=
 Row.far (p := ⟨g, 6, none⟩) h (Row.far (p := ⟨g, 5, none⟩) h (Row.far (p := ⟨g, 4, none⟩) h (Row.far (p := ⟨g, 3, none⟩) h (Row.far (p := ⟨g, 2, none⟩) h (Row.far (p := ⟨g, 1, none⟩) h (Row.far (p := ⟨g, 0, none⟩) h r))))))
theorem ext7 {g : Nat} {w0 w : World} {v0 v1 v2 v3 v4 v5 v6 : Value} (h : w0.heap.size ≤ g) (r : Ext w0 w) : Ext w0 (((((((w.setCell ⟨g, 0, none⟩ v0).setCell ⟨g, 1, none⟩ v1).setCell ⟨g, 2, none⟩ v2).setCell ⟨g, 3, none⟩ v3).setCell ⟨g, 4, none⟩ v4).setCell ⟨g, 5, none⟩ v5).setCell ⟨g, 6, none⟩ v6) :=
 ((((((r.setCell h v0).setCell h v1).setCell h v2).setCell h v3).setCell h v4).setCell h v5).setCell h v6
theorem own7 {g base : Nat} {w : World} {x : Sv} {s : St} {v0 v1 v2 v3 v4 v5 v6 : Value} (h : g < base) (r : OwnS base w x s) : OwnS base (((((((w.setCell ⟨g, 0, none⟩ v0).setCell ⟨g, 1, none⟩ v1).setCell ⟨g, 2, none⟩ v2).setCell ⟨g, 3, none⟩ v3).setCell ⟨g, 4, none⟩ v4).setCell ⟨g, 5, none⟩ v5).setCell ⟨g, 6, none⟩ v6) x s :=
 ((((((r.setC (a := ⟨g, 0, none⟩) h).setC (a := ⟨g, 1, none⟩) h).setC (a := ⟨g, 2, none⟩) h).setC (a := ⟨g, 3, none⟩) h).setC (a := ⟨g, 4, none⟩) h).setC (a := ⟨g, 5, none⟩) h).setC (a := ⟨g, 6, none⟩) h
def cka (s : St) (y : Sv) (n : Int) : Array Value := #[y.s0, y.s1, y.s2, .int .i64 s.denied.version, y.si, y.sg, y.sv, .int .i64 n]
structure Ck (base : Nat) (w : World) (p : Nat) (y : Sv) (s : St) (n : Int) : Prop where
 box : Bx w p 126 (cka s y n)
 ge : base ≤ p
 own : OwnS base w y s
theorem Ck.ext {base p : Nat} {w w' : World} {y : Sv} {s : St} {n : Int} (h : Ck base w p y s n) (he : Ext w w') : Ck base w' p y s n := ⟨h.box.ext he, h.ge, h.own.ext he⟩
theorem Ck.num {base p : Nat} {w : World} {y : Sv} {s : St} {n : Int} (h : Ck base w p y s n) (m : Int) : Ck base (w.setCell ⟨p, 7, none⟩ (.int .i64 m)) p y s m :=
 ⟨bxC (h.box.set (i := 7)) (by simp only [cka, lSet]), h.ge, h.own.keep (own := fun q => q = p) (Fr.setC rfl (Fr.refl _ _)) (by rintro q rfl; exact ⟨_, _, h.box, by decide⟩)⟩
theorem Ck.denied {base p b2 : Nat} {w : World} {y : Sv} {s : St} {n : Int} {D : Value} {d : Dn} (hk : Ck base w p y s n) (ho : OwnL 3 1 inc b2 w D d.ids) (hb : base ≤ b2) :
  Ck base ((w.setCell ⟨p, 3, none⟩ (.int .i64 d.version)).setCell ⟨p, 4, none⟩ D) p ⟨y.s0, y.s1, y.s2, D, y.sg, y.sv⟩ ⟨s.ledger, d, s.gates, s.views⟩ n := by
 have hf : Fr (fun q => q = p) w ((w.setCell ⟨p, 3, none⟩ (.int .i64 d.version)).setCell ⟨p, 4, none⟩ D) := Fr.setC rfl (Fr.setC rfl (Fr.refl _ _))
 have hp : ∀ q, (fun q => q = p) q → ∃ e2 cs, Bx w q e2 cs ∧ e2 ∉ spT := by rintro q rfl; exact ⟨_, _, hk.box, by decide⟩
 have hk2 : ∀ q, (fun q => q = p) q → ∃ e2 cs, Bx w q e2 cs ∧ e2 ∉ spK := by rintro q rfl; exact ⟨_, _, hk.box, by decide⟩
 have h := hk.own.keep hf hp
 exact ⟨bxC ((hk.box.set (i := 3)).set (i := 4)) (by simp only [cka, lSet]), hk.ge, ⟨h.tk, h.tp, h.vd, (ho.keepT hf (offK hk2 (by decide))).lower hb, h.gt, h.vw⟩⟩
def putCk (w : World) (p : Nat) (s : St) (y : Sv) : World := ((((((w.setCell ⟨p, 0, none⟩ y.s0).setCell ⟨p, 1, none⟩ y.s1).setCell ⟨p, 2, none⟩ y.s2).setCell ⟨p, 3, none⟩ (.int .i64 s.denied.version)).setCell ⟨p, 4, none⟩ y.si).setCell ⟨p, 5, none⟩ y.sg).setCell ⟨p, 6, none⟩ y.sv
theorem Ck.put {base p b2 : Nat} {w : World} {y y' : Sv} {s s' : St} {n : Int} (hk : Ck base w p y s n) (ho : OwnS b2 w y' s') (hb : base ≤ b2) : Ck base (putCk w p s' y') p y' s' n := by
 have hf : Fr (fun q => q = p) w (putCk w p s' y') := Fr.setC rfl (Fr.setC rfl (Fr.setC rfl (Fr.setC rfl (Fr.setC rfl (Fr.setC rfl (Fr.setC rfl (Fr.refl _ _)))))))
 have hp : ∀ q, (fun q => q = p) q → ∃ e2 cs, Bx w q e2 cs ∧ e2 ∉ spT := by rintro q rfl; exact ⟨_, _, hk.box, by decide⟩
 exact ⟨bxC (((((((hk.box.set (i := 0)).set (i := 1)).set (i := 2)).set (i := 3)).set (i := 4)).set (i := 5)).set (i := 6)) (by simp only [cka, lSet]), hk.ge, (ho.keep hf hp).lower hb⟩
theorem putCk_fr {own : Nat → Prop} {w0 w : World} {p : Nat} {s : St} {y : Sv} (h : own p) (hf : Fr own w0 w) : Fr own w0 (putCk w p s y) := Fr.setC h (Fr.setC h (Fr.setC h (Fr.setC h (Fr.setC h (Fr.setC h (Fr.setC h hf))))))
def dnyE (s : St) (id : Int) : Int := if led s = false then 4 else (denyD s.denied id).2

theorem clerk_deny (s : St) (y : Sv) (n id : Int) (p base : Nat) (w : World) (hk : Ck base w p y s n) (rs : RightS s) :
  Calls Tryz.prog 147 #[.pointer (some ⟨p, 0, none⟩), .int .i64 id] w fun e w' => e = .returned (.int .i64 (dnyE s id)) ∧ Fr (fun q => q = p) w w' ∧ ∃ y', Ck base w' p y' (if dnyE s id = 0 then ⟨s.ledger, (denyD s.denied id).1, s.gates, s.views⟩ else s) n := by
 have HK := Lib.hid hk
 have K1 := Lib.hid (fun w' (h : Ext w w') => lead_Who s.views y.sv w' ((hk.own.vw.rd vwc_size).ext h) rs.views)
 have K2 := Lib.hid (fun w' (h : Ext w w') => denied_Raw s.denied y.si id w' ((hk.own.dn.rd inc_size).ext h) rs.denied)
 have hde : dnyE s id = if (whoV s.views).2 = false then 4 else (denyD s.denied id).2 := rfl
 obtain ⟨R, hR⟩ : ∃ R, R = (if dnyE s id = 0 then ⟨s.ledger, (denyD s.denied id).1, s.gates, s.views⟩ else s) := ⟨_, rfl⟩
 rw [← hR]
 generalize dnyE s id = de at *
 generalize denyD s.denied id = E at *
 generalize whoV s.views = Q at *
 obtain ⟨Q1, Q2⟩ := Q
 obtain ⟨⟨E0, E1⟩, E2⟩ := E
 have HDE := Lib.hid hde
 have HRR := Lib.hid hR
 obtain ⟨B0, b0, hB0⟩ := hk.own.tk.form
 obtain ⟨B1, b1, hB1⟩ := hk.own.tp.form
 obtain ⟨B2, b2, hB2⟩ := hk.own.vd.form
 obtain ⟨B3, b3, hB3⟩ := hk.own.dn.form
 obtain ⟨B4, b4, hB4⟩ := hk.own.gt.form
 obtain ⟨B5, b5, hB5⟩ := hk.own.vw.form
 have RB := Lib.hid hk.box.row
 unfold cka at RB
 rw [hB0, hB1, hB2, hB3, hB4, hB5] at RB
 rw [hB5] at K1
 rw [hB3] at K2
 simp only at K1 K2 HDE
 have hpw := hk.box.lt
 have hge := hk.ge
 obtain ⟨qp, fp, lp⟩ : (∀ o, w.cell? ⟨p, o, none⟩ = _) ∧ (∀ o, w.frozen? ⟨p, o, none⟩ = false) ∧ p < w.heap.size := ⟨RB.out.2.1, RB.out.2.2, RB.out.1⟩
 clear hk rs hde hR hB0 hB1 hB2 hB3 hB4 hB5
 go_enter Tryz.func147, Tryz.ntmps147
 go_wp2_with fail
 (refine gA (K1.out _ extA) fun w1 H1 hz1 => ?_; (try simp only [lSz] at hz1); refine rowU w1 p fun q1_0 f1_0 l1_0 R1_0 => ?_)
 cases Q2
 ·have HQ := Lib.hid (show de = 4 by rw [HDE.out]; simp)
  go_wp2_with fail
  go_ret
  have hr := HRR.out
  rw [HQ.out, if_neg (by decide)] at hr
  subst hr
  rw [HQ.out]
  exact ⟨rfl, Fr.ofExt (extA : Ext w _), y, HK.out.ext (extA : Ext w _)⟩
 have HQ := Lib.hid (show de = E2 by rw [HDE.out]; simp)
 go_wp2_with fail
 refine (K2.out _ extA).mono ?_
 rintro e w2 ⟨D, rfl, h2, ho⟩
 obtain ⟨D1, d1, rfl⟩ := ho.form
 have H2 := Lib.hid h2
 have HO := Lib.hid ho
 have hz2 := h2.size
 clear h2 ho
 (refine rowU w2 p fun q2_0 f2_0 l2_0 R2_0 => ?_)
 have HW2 := Lib.hid (And.intro trivial (extA : Ext w w2))
 have hw1s := H1.out.size
 by_cases h0 : E2 = 0
 ·subst h0
  go_wp2_with fail
  go_ret
  have hr := HRR.out
  rw [HQ.out, if_pos rfl] at hr
  subst hr
  rw [HQ.out]
  exact ⟨rfl, Fr.step (Fr.setC rfl (Fr.setC rfl (Fr.ofExt HW2.out.2))) ((Ext.refl _).alloc _), _, ((HK.out.ext HW2.out.2).denied (d := ⟨E0, E1⟩) HO.out (by omega)).ext ((Ext.refl _).alloc _)⟩
 ·have h0b : (E2 == 0) = false := by simpa using h0
  go_wp2_with fail
  go_ret
  have hr := HRR.out
  rw [HQ.out, if_neg h0] at hr
  subst hr
  rw [HQ.out]
  exact ⟨rfl, Fr.ofExt (extA : Ext w _), y, HK.out.ext (extA : Ext w _)⟩
theorem clerk_set (fg : Nat) (lb : Array Value) (eg : ∀ args w, (callFunc fg args).run Tryz.prog w = .ok (.enter fg args) w) (s : St) (y : Sv) (n n' ec : Int) (vs : List Vw) (p base : Nat) (w : World) (hge : base ≤ p) (hpw : p < w.heap.size) (hbw : base ≤ w.heap.size)
  (hdo : ∀ W, Ext w W → Calls Tryz.prog fg lb W fun e W' => ∃ v, e = .returned (.tuple #[v, .int .i64 ec]) ∧ Fr (fun q => q = p) W W' ∧ Ck base W' p y s n' ∧ OwnL 110 3 vwc base W' v vs) :
  Calls Tryz.prog 148 #[.pointer (some ⟨p, 0, none⟩), .func (.func fg) #[] lb] w fun e w' => e = .returned (.int .i64 ec) ∧ Fr (fun q => q = p) w w' ∧ ∃ y', Ck base w' p y' (if ec = 0 then ⟨s.ledger, s.denied, s.gates, vs⟩ else s) n' := by
 obtain ⟨s0, s1, s2, si, sg, sv⟩ := y
 have HD := Lib.hid hdo
 clear hdo
 have HPL := Lib.hid (Lib.hid trivial)
 by_cases h0 : ec = 0
 case neg =>
  have h0b : (ec == 0) = false := by simpa using h0
  rw [if_neg h0]
  go_enter Tryz.func148, Tryz.ntmps148
  go_wp2_with (go_at_fn fg; refine (HD.out _ (Ext.refl _)).mono ?_; rintro e w2 ⟨v, rfl, hf2, hk2, ho2⟩; obtain ⟨D1, d1, rfl⟩ := ho2.form; have HF2 := Lib.hid hf2; have HK2 := Lib.hid hk2; clear hf2 hk2 ho2)
  go_ret
  exact ⟨rfl, HF2.out, _, HK2.out⟩
 subst h0
 rw [if_pos rfl]
 go_enter Tryz.func148, Tryz.ntmps148
 go_wp2_with (go_at_fn fg; refine (HD.out _ (Ext.refl _)).mono ?_; rintro e w2 ⟨v, rfl, hf2, hk2, ho2⟩; obtain ⟨D1, d1, rfl⟩ := ho2.form; have HF2 := Lib.hid hf2; have HK2 := Lib.hid hk2; have HO2 := Lib.hid ho2; clear hf2 hk2 ho2)
 obtain ⟨B0, b0, e0⟩ : ∃ B d, s0 = .slice B s.ledger.tickets.length d := HK2.out.own.tk.form
 obtain ⟨B1, b1, e1⟩ : ∃ B d, s1 = .slice B s.ledger.taps.length d := HK2.out.own.tp.form
 obtain ⟨B2, b2, e2⟩ : ∃ B d, s2 = .slice B s.ledger.verdicts.length d := HK2.out.own.vd.form
 obtain ⟨B3, b3, e3⟩ : ∃ B d, si = .slice B s.denied.ids.length d := HK2.out.own.dn.form
 obtain ⟨B4, b4, e4⟩ : ∃ B d, sg = .slice B s.gates.length d := HK2.out.own.gt.form
 obtain ⟨B5, b5, e5⟩ : ∃ B d, sv = .slice B s.views.length d := HK2.out.own.vw.form
 subst e0 e1 e2 e3 e4 e5
 have RB := Lib.hid HK2.out.box.row
 unfold cka at RB
 simp only at RB
 obtain ⟨qp, fp, lp⟩ : (∀ o, w2.cell? ⟨p, o, none⟩ = _) ∧ (∀ o, w2.frozen? ⟨p, o, none⟩ = false) ∧ p < w2.heap.size := ⟨RB.out.2.1, RB.out.2.2, RB.out.1⟩
 have HK := Lib.hid (fun (w' : World) (h : Row w' p #[.slice B0 s.ledger.tickets.length b0, .slice B1 s.ledger.taps.length b1, .slice B2 s.ledger.verdicts.length b2, .int .i64 s.denied.version, .slice B3 s.denied.ids.length b3, .slice B4 s.gates.length b4, .slice B5 s.views.length b5, .int .i64 n']) => h.2.1)
 (refine T_begin (fun w' => Row w' p #[.slice B0 s.ledger.tickets.length b0, .slice B1 s.ledger.taps.length b1, .slice B2 s.ledger.verdicts.length b2, .int .i64 s.denied.version, .slice B3 s.denied.ids.length b3, .slice B4 s.gates.length b4, .slice B5 s.views.length b5, .int .i64 n']) 20 (by kernel_rfl) (RB.out.drew) (fun hS => ?_); simp only [List.length_cons, List.length_nil])
 (refine tkA 0 HK hS ?_; refine tkA 1 HK hS ?_; refine tkA 2 HK hS ?_; refine tkA 3 HK hS ?_; refine tkA 4 HK hS ?_; refine tkA 5 HK hS ?_; refine tkA 6 HK hS ?_; refine tkA 7 HK hS ?_; refine tkA 8 HK hS ?_; refine tkA 9 HK hS ?_; refine tkA 10 HK hS ?_; refine tkA 11 HK hS ?_; refine tkA 12 HK hS ?_; refine tkA 13 HK hS ?_; refine tkA 14 HK hS ?_; refine tkA 15 HK hS ?_; refine tkA 16 HK hS ?_; refine tkA 17 HK hS ?_; refine tkA 18 HK hS ?_; refine tkA 19 HK hS ?_)
 clear HK hS
 (refine oA 20 fun K hK => ?_; go_simp; refine hK.out _ _ (.inl (by kernel_rfl)) ?_; clear hK; (try simp only [Act.put, lSet]); refine T_done (by kernel_rfl) ?_ _)
 go_wp2_with fail
 go_ret
 have ho : OwnS base w2 ⟨.slice B0 s.ledger.tickets.length b0, .slice B1 s.ledger.taps.length b1, .slice B2 s.ledger.verdicts.length b2, .slice B3 s.denied.ids.length b3, .slice B4 s.gates.length b4, .slice D1 vs.length d1⟩ ⟨s.ledger, s.denied, s.gates, vs⟩ := ⟨HK2.out.own.tk, HK2.out.own.tp, HK2.out.own.vd, HK2.out.own.dn, HK2.out.own.gt, HO2.out⟩
 exact ⟨rfl, (putCk_fr (own := fun q => q = p) (s := ⟨s.ledger, s.denied, s.gates, vs⟩) (y := ⟨.slice B0 s.ledger.tickets.length b0, .slice B1 s.ledger.taps.length b1, .slice B2 s.ledger.verdicts.length b2, .slice B3 s.denied.ids.length b3, .slice B4 s.gates.length b4, .slice D1 vs.length d1⟩) rfl HF2.out).step ((Ext.refl _).drew), _, (HK2.out.put ho (Nat.le_refl _)).ext ((Ext.refl _).drew)⟩
theorem do_one (a : Ac) (s : St) (y : Sv) (n : Int) (p b2 b3 base : Nat) (w : World) (hk : Ck base w p y s n) (rs : RightS s) (h2 : Row w b2 #[.pointer (some ⟨p, 0, none⟩)]) (h3 : Row w b3 (acc a)) :
  Calls Tryz.prog 149 #[.pointer (some ⟨b2, 0, none⟩), .pointer (some ⟨b3, 0, none⟩)] w fun e w' => ∃ v, e = .returned (.tuple #[v, .int .i64 (setV s.views a.of (a.kind == 5)).2]) ∧ Fr (fun q => q = p) w w' ∧ Ck base w' p y s n ∧ OwnL 110 3 vwc base w' v (setV s.views a.of (a.kind == 5)).1 := by
 have HK0 := Lib.hid hk
 have KT := Lib.hid (fun w' (h : Ext w w') => lead_Turn s.views y.sv a.of (a.kind == 5) w' ((hk.own.vw.rd vwc_size).ext h) rs.views)
 generalize setV s.views a.of (a.kind == 5) = Q at *
 obtain ⟨Q1, Q2⟩ := Q
 obtain ⟨B5, b5, hB5⟩ := hk.own.vw.form
 have RB := Lib.hid hk.box.row
 have R2 := Lib.hid h2
 have R3 := Lib.hid h3
 unfold cka at RB
 unfold acc at R3
 rw [hB5] at RB KT
 have hpw := hk.box.lt
 have hge := hk.ge
 simp only at KT
 clear hk rs h2 h3 hB5
 go_enter Tryz.func149, Tryz.ntmps149
 go_upto_region 1 with fail
 (apply wp_gen3 (w0 := w) (g0 := p) (g1 := b2) (g2 := b3); (focus (exact rowA)); (focus (exact rowA)); (focus (exact rowA)); (focus (exact extA)); intro W HW hzW Rz_0 Rz_1 Rz_2; (try simp only [lSet, World.size_alloc, size_set, World.heap_drewN, size_drew] at hzW Rz_0 Rz_1 Rz_2); have lz_0 := Rz_0.out.size; have lz_1 := Rz_1.out.size; have lz_2 := Rz_2.out.size)
 have HK := Lib.hid (fun w' (h : Ext W w') => And.intro (Row.ext h Rz_0.out).2.1 (And.intro (Row.ext h Rz_1.out).2.1 ((Row.ext h Rz_2.out).2.1)))
 (refine T_begin (fun w' => Ext W w') 14 (by kernel_rfl) ((Ext.refl _).drew) (fun hS => ?_); simp only [List.length_cons, List.length_nil])
 (refine tkA 0 HK hS ?_; refine tkA 1 HK hS ?_; refine tkA 2 HK hS ?_; refine tkA 3 HK hS ?_; refine tkA 4 HK hS ?_; refine tkA 5 HK hS ?_; refine tkA 6 HK hS ?_; refine tkA 7 HK hS ?_; refine tkA 8 HK hS ?_; refine tkA 9 HK hS ?_)
 (refine oA 10 fun K hK => ?_; go_simp)
 refine (KT.out _ (HW.out.trans (extA : Ext W _))).mono ?_
 rintro e w2 ⟨v, rfl, hx, ho⟩
 obtain ⟨D1, d1, rfl⟩ := ho.form
 have H2 := Lib.hid hx
 have HO := Lib.hid ho
 have hz2 := hx.size
 (try simp only [lSz] at hz2 HO)
 clear hx ho hS
 have hS : Ext W w2 := by exact extA
 go_wp2_with fail
 (refine hK.out _ _ (.inr hS) ?_; clear hK; (try simp only [Act.put, lSet]))
 (refine tkP 11 ?_; refine tkP 12 ?_)
 ((refine oA 13 fun K hK => ?_; go_simp; refine hK.out _ _ (.inr hS) ?_; clear hK; (try simp only [Act.put, lSet])))
 (refine oA 14 fun K hK => ?_; go_simp; refine hK.out _ _ (.inl (by kernel_rfl)) ?_; clear hK; (try simp only [Act.put, lSet]); refine T_done (by kernel_rfl) ?_ _)
 clear HK
 go_wp2_with fail
 refine bodyPost_ret (v := .tuple #[.slice D1 Q1.length d1, .int .i64 Q2]) (by simp [results, Tryz.results149, go_sem, *]) rfl ⟨_, rfl, Fr.ofExt (show Ext w _ from HW.out.trans (extA : Ext W _)), HK0.out.ext (show Ext w _ from HW.out.trans (extA : Ext W _)), ?_⟩
 exact HO.out.lower (by omega)
theorem do_two (a : Ac) (s : St) (y : Sv) (n : Int) (p b2 b3 base : Nat) (w : World) (hk : Ck base w p y s n) (rs : RightS s) (h2 : Row w b2 #[.pointer (some ⟨p, 0, none⟩)]) (h3 : Row w b3 (acc a)) :
  Calls Tryz.prog 150 #[.pointer (some ⟨b2, 0, none⟩), .pointer (some ⟨b3, 0, none⟩)] w fun e w' => ∃ v, e = .returned (.tuple #[v, .int .i64 (winV s.views a.of).2.2]) ∧ Fr (fun q => q = p) w w' ∧ Ck base w' p y s (if (winV s.views a.of).2.1 = true then 1 else n) ∧ OwnL 110 3 vwc base w' v (winV s.views a.of).1 := by
 have HK0 := Lib.hid hk
 have KT := Lib.hid (fun w' (h : Ext w w') => lead_Raw s.views y.sv a.of w' ((hk.own.vw.rd vwc_size).ext h) rs.views)
 generalize winV s.views a.of = Q at *
 obtain ⟨Q1, Q2, Q3⟩ := Q
 obtain ⟨n', hn'⟩ : ∃ m : Int, m = if Q2 = true then 1 else n := ⟨_, rfl⟩
 simp only
 rw [← hn']
 have HN := Lib.hid hn'
 obtain ⟨B5, b5, hB5⟩ := hk.own.vw.form
 have RB := Lib.hid hk.box.row
 have R2 := Lib.hid h2
 have R3 := Lib.hid h3
 unfold cka at RB
 unfold acc at R3
 rw [hB5] at RB KT
 have hpw := hk.box.lt
 have hge := hk.ge
 simp only at KT
 clear hk rs h2 h3 hB5 hn'
 go_enter Tryz.func150, Tryz.ntmps150
 go_upto_region 1 with fail
 (apply wp_gen3 (w0 := w) (g0 := p) (g1 := b2) (g2 := b3); (focus (exact rowA)); (focus (exact rowA)); (focus (exact rowA)); (focus (exact extA)); intro W HW hzW Rz_0 Rz_1 Rz_2; (try simp only [lSet, World.size_alloc, size_set, World.heap_drewN, size_drew] at hzW Rz_0 Rz_1 Rz_2); have lz_0 := Rz_0.out.size; have lz_1 := Rz_1.out.size; have lz_2 := Rz_2.out.size)
 have HK := Lib.hid (fun w' (h : Ext W w') => And.intro (Row.ext h Rz_0.out).2.1 (And.intro (Row.ext h Rz_1.out).2.1 ((Row.ext h Rz_2.out).2.1)))
 (refine T_begin (fun w' => Ext W w') 14 (by kernel_rfl) ((Ext.refl _).drew) (fun hS => ?_); simp only [List.length_cons, List.length_nil])
 (refine tkA 0 HK hS ?_; refine tkA 1 HK hS ?_; refine tkA 2 HK hS ?_; refine tkA 3 HK hS ?_; refine tkA 4 HK hS ?_; refine tkA 5 HK hS ?_; refine tkA 6 HK hS ?_)
 (refine oA 7 fun K hK => ?_; go_simp)
 refine (KT.out _ (HW.out.trans (extA : Ext W _))).mono ?_
 rintro e w2 ⟨v, rfl, hx, ho⟩
 obtain ⟨D1, d1, rfl⟩ := ho.form
 have H2 := Lib.hid hx
 have HO := Lib.hid ho
 have hz2 := hx.size
 (try simp only [lSz] at hz2 HO)
 clear hx ho hS
 have hS : Ext W w2 := by exact extA
 go_wp2_with fail
 (refine hK.out _ _ (.inr hS) ?_; clear hK; (try simp only [Act.put, lSet]))
 (refine tkP 8 ?_; refine tkP 9 ?_; refine tkP 10 ?_; refine tkP 11 ?_)
 ((refine oA 12 fun K hK => ?_; go_simp; refine hK.out _ _ (.inr hS) ?_; clear hK; (try simp only [Act.put, lSet])); (refine oA 13 fun K hK => ?_; go_simp; refine hK.out _ _ (.inr hS) ?_; clear hK; (try simp only [Act.put, lSet])))
 (refine oA 14 fun K hK => ?_; go_simp; refine hK.out _ _ (.inl (by kernel_rfl)) ?_; clear hK; (try simp only [Act.put, lSet]); refine T_done (by kernel_rfl) ?_ _)
 clear HK hS
 (refine rowU w2 p fun qf_0 ff_0 lf_0 Rf_0 => ?_; refine rowU w2 b2 fun qf_1 ff_1 lf_1 Rf_1 => ?_)
 have HWX := Lib.hid (And.intro trivial (HW.out.trans (extA : Ext W w2)))
 cases Q2
 ·have hn := HN.out
  simp only [Bool.false_eq_true, if_false] at hn
  subst hn
  go_wp2_with fail
  refine bodyPost_ret (v := .tuple #[.slice D1 Q1.length d1, .int .i64 Q3]) (by simp [results, Tryz.results150, go_sem, *]) rfl ⟨_, rfl, Fr.ofExt HWX.out.2, HK0.out.ext HWX.out.2, ?_⟩
  exact HO.out.lower (by omega)
 ·have hn := HN.out
  simp only [if_true] at hn
  subst hn
  go_wp2_with fail
  have hf : Fr (fun q => q = p) w2 (w2.setCell ⟨p, 7, none⟩ (.int .i64 1)) := Fr.setC rfl (Fr.refl _ _)
  refine bodyPost_ret (v := .tuple #[.slice D1 Q1.length d1, .int .i64 Q3]) (by simp [results, Tryz.results150, go_sem, *]) rfl ⟨_, rfl, Fr.setC rfl (Fr.ofExt HWX.out.2), (HK0.out.ext HWX.out.2).num 1, ?_⟩
  exact (HO.out.keepT hf (by rintro q rfl; exact ⟨_, _, (HK0.out.ext HWX.out.2).box, by decide⟩)).lower (by omega)

theorem clerk_do_1 (s : St) (y : Sv) (n : Int) (a : Ac) (p base : Nat) (w : World) (hk : Ck base w p y s n) (rs : RightS s) (hf : formA a = 0) (hkd : a.kind = 1) :
  Calls Tryz.prog 91 #[.pointer (some ⟨p, 0, none⟩), .agg (acc a)] w fun e w' => e = .returned (.int .i64 (orSt (actS s n a) s).2.2) ∧ Fr (fun q => q = p) w w' ∧ ∃ y', Ck base w' p y' (orSt (actS s n a) s).1 (orSt (actS s n a) s).2.1 := by
 have KF := Lib.hid (fun (w' : World) => hf ▸ desk_form a w')
 obtain ⟨D, hD⟩ : ∃ D, D = orSt (actS s n a) s := ⟨_, rfl⟩
 rw [← hD]
 obtain ⟨k, id, of, time, ⟨t0, t1, t2, t3, t4, t5⟩⟩ := a
 simp only at hkd
 obtain ⟨s0, s1, s2, si, sg, sv⟩ := y
 obtain ⟨B0, kB0, rfl⟩ : ∃ B d, s0 = .slice B s.ledger.tickets.length d := hk.own.tk.form
 obtain ⟨B1, kB1, rfl⟩ : ∃ B d, s1 = .slice B s.ledger.taps.length d := hk.own.tp.form
 obtain ⟨B2, kB2, rfl⟩ : ∃ B d, s2 = .slice B s.ledger.verdicts.length d := hk.own.vd.form
 obtain ⟨B3, kB3, rfl⟩ : ∃ B d, si = .slice B s.denied.ids.length d := hk.own.dn.form
 obtain ⟨B4, kB4, rfl⟩ : ∃ B d, sg = .slice B s.gates.length d := hk.own.gt.form
 obtain ⟨B5, kB5, rfl⟩ : ∃ B d, sv = .slice B s.views.length d := hk.own.vw.form
 have HK := Lib.hid hk
 have RB := Lib.hid hk.box.row
 unfold cka at RB
 simp only at RB
 have hpw := hk.box.lt
 have hge := hk.ge
 have HRS := Lib.hid rs
 obtain ⟨qp, fp, lp⟩ : (∀ o, w.cell? ⟨p, o, none⟩ = _) ∧ (∀ o, w.frozen? ⟨p, o, none⟩ = false) ∧ p < w.heap.size := ⟨RB.out.2.1, RB.out.2.2, RB.out.1⟩
 unfold acc at KF ⊢
 simp only at KF ⊢
 subst hkd
 have hD2 : D = if (sellRaw s ⟨t0, t1, t2, t3, t4, t5⟩).2 = 0 then ((sellRaw s ⟨t0, t1, t2, t3, t4, t5⟩).1, n, (sellRaw s ⟨t0, t1, t2, t3, t4, t5⟩).2) else (s, n, (sellRaw s ⟨t0, t1, t2, t3, t4, t5⟩).2) := by
  rw [hD]
  unfold orSt actS
  simp
  try rfl
 have KS := Lib.hid (fun (w' : World) (h : RdS w' ⟨.slice B0 s.ledger.tickets.length kB0, .slice B1 s.ledger.taps.length kB1, .slice B2 s.ledger.verdicts.length kB2, .slice B3 s.denied.ids.length kB3, .slice B4 s.gates.length kB4, .slice B5 s.views.length kB5⟩ s) => station_RawSell s ⟨.slice B0 s.ledger.tickets.length kB0, .slice B1 s.ledger.taps.length kB1, .slice B2 s.ledger.verdicts.length kB2, .slice B3 s.denied.ids.length kB3, .slice B4 s.gates.length kB4, .slice B5 s.views.length kB5⟩ ⟨t0, t1, t2, t3, t4, t5⟩ w' h HRS.out)
 generalize sellRaw s ⟨t0, t1, t2, t3, t4, t5⟩ = R at *
 have HD := Lib.hid hD2
 clear hD2
 obtain ⟨R1, R3⟩ := R
 simp only at KS HD
 clear hk rs hf hD
 go_enter Tryz.func91, Tryz.ntmps91
 go_wp2_with fail
 (refine gA (KF.out _) fun w1 H1 hz1 => ?_; (try simp only [lSz] at hz1); refine rowU w1 p fun q1_0 f1_0 l1_0 R1_0 => ?_; refine rowU w1 w.heap.size fun q1_1 f1_1 l1_1 R1_1 => ?_; refine rowU w1 (w.heap.size + 1) fun q1_2 f1_2 l1_2 R1_2 => ?_)
 have HB2 := Lib.hid (show Bx w1 w.heap.size 124 #[.pointer (some ⟨p, 0, none⟩)] from Bx.ext (Bx.alloc (Bx.newAt rfl) _) H1.out)
 have HB3 := Lib.hid (show Bx w1 (w.heap.size + 1) 71 #[.int .i64 1, .int .i64 id, .int .i64 of, .int .i64 time, .int .i64 t0, .int .i64 t1, .int .i64 t2, .int .i64 t3, .int .i64 t4, .int .i64 t5] from Bx.ext (Bx.newAt (by simp)) H1.out)
 go_upto_region 8 with fail
 have HCK1 := Lib.hid (HK.out.ext (extA : Ext w w1))
 refine wp_genP (S := fun W => Ext w W ∧ w1.heap.size < W.heap.size ∧ (Ck base W p ⟨.slice B0 s.ledger.tickets.length kB0, .slice B1 s.ledger.taps.length kB1, .slice B2 s.ledger.verdicts.length kB2, .slice B3 s.denied.ids.length kB3, .slice B4 s.gates.length kB4, .slice B5 s.views.length kB5⟩ s n ∧ Bx W w.heap.size 124 #[.pointer (some ⟨p, 0, none⟩)] ∧ Bx W (w.heap.size + 1) 71 #[.int .i64 1, .int .i64 id, .int .i64 of, .int .i64 time, .int .i64 t0, .int .i64 t1, .int .i64 t2, .int .i64 t3, .int .i64 t4, .int .i64 t5]) ∧ Bx W w1.heap.size 32 #[.slice B0 s.ledger.tickets.length kB0, .slice B1 s.ledger.taps.length kB1, .slice B2 s.ledger.verdicts.length kB2, .int .i64 s.denied.version, .slice B3 s.denied.ids.length kB3, .slice B4 s.gates.length kB4, .slice B5 s.views.length kB5]) ⟨by exact extA, by simp, ⟨HCK1.out.ext ((Ext.refl _).alloc _), HB2.out.ext ((Ext.refl _).alloc _), HB3.out.ext ((Ext.refl _).alloc _)⟩, Bx.newAt rfl⟩ ?_
 intro W hS
 obtain ⟨hxw, hgw, ⟨hck, hb2, hb3⟩, hb6⟩ := hS.out
 have HXW := Lib.hid hxw
 have HCK := Lib.hid hck
 have HB2W := Lib.hid hb2
 have HB3W := Lib.hid hb3
 have HB6 := Lib.hid hb6
 have hpW := hck.box.lt
 have hzW := hxw.size
 have hz1 := H1.out.size
 (try simp only [World.size_alloc] at hz1)
 clear hS hxw hck hb2 hb3 hb6 HCK1 HB2 HB3 q1_0 f1_0 l1_0 R1_0 q1_1 f1_1 l1_1 R1_1 q1_2 f1_2 l1_2 R1_2 qp fp KF RB
 have HK0 := HK
 clear HK
 have HK := Lib.hid (fun (w' : World) (h : ∃ m, Ck base w' p ⟨.slice B0 s.ledger.tickets.length kB0, .slice B1 s.ledger.taps.length kB1, .slice B2 s.ledger.verdicts.length kB2, .slice B3 s.denied.ids.length kB3, .slice B4 s.gates.length kB4, .slice B5 s.views.length kB5⟩ s m ∧ Bx w' w.heap.size 124 #[.pointer (some ⟨p, 0, none⟩)] ∧ Bx w' (w.heap.size + 1) 71 #[.int .i64 1, .int .i64 id, .int .i64 of, .int .i64 time, .int .i64 t0, .int .i64 t1, .int .i64 t2, .int .i64 t3, .int .i64 t4, .int .i64 t5]) => (show (w'.cell? ⟨p, 0, none⟩ = some (.slice B0 s.ledger.tickets.length kB0) ∧ w'.cell? ⟨p, 1, none⟩ = some (.slice B1 s.ledger.taps.length kB1) ∧ w'.cell? ⟨p, 2, none⟩ = some (.slice B2 s.ledger.verdicts.length kB2) ∧ w'.cell? ⟨p, 3, none⟩ = some (.int .i64 s.denied.version) ∧ w'.cell? ⟨p, 4, none⟩ = some (.slice B3 s.denied.ids.length kB3) ∧ w'.cell? ⟨p, 5, none⟩ = some (.slice B4 s.gates.length kB4) ∧ w'.cell? ⟨p, 6, none⟩ = some (.slice B5 s.views.length kB5)) ∧ (∀ o, w'.cell? ⟨w.heap.size, o, none⟩ = (#[.pointer (some ⟨p, 0, none⟩)] : Array Value)[o]?) ∧ (∀ o, w'.cell? ⟨w.heap.size + 1, o, none⟩ = (#[.int .i64 1, .int .i64 id, .int .i64 of, .int .i64 time, .int .i64 t0, .int .i64 t1, .int .i64 t2, .int .i64 t3, .int .i64 t4, .int .i64 t5] : Array Value)[o]?) by
  obtain ⟨m, h1, h2, h3⟩ := h
  have hr := h1.box.row.2.1
  exact ⟨⟨hr 0, hr 1, hr 2, hr 3, hr 4, hr 5, hr 6⟩, h2.row.2.1, h3.row.2.1⟩))
 (refine T_begin (fun w' => ∃ m, Ck base w' p ⟨.slice B0 s.ledger.tickets.length kB0, .slice B1 s.ledger.taps.length kB1, .slice B2 s.ledger.verdicts.length kB2, .slice B3 s.denied.ids.length kB3, .slice B4 s.gates.length kB4, .slice B5 s.views.length kB5⟩ s m ∧ Bx w' w.heap.size 124 #[.pointer (some ⟨p, 0, none⟩)] ∧ Bx w' (w.heap.size + 1) 71 #[.int .i64 1, .int .i64 id, .int .i64 of, .int .i64 time, .int .i64 t0, .int .i64 t1, .int .i64 t2, .int .i64 t3, .int .i64 t4, .int .i64 t5]) 11 (by kernel_rfl) (Exists.intro n (And.intro (HCK.out.ext ((Ext.refl _).drew)) (And.intro HB2W.out.drew HB3W.out.drew))) (fun hS => ?_); simp only [List.length_cons, List.length_nil])
 (refine tkA 0 HK hS ?_; refine tkA 1 HK hS ?_; refine tkA 2 HK hS ?_; refine tkA 3 HK hS ?_; refine tkA 4 HK hS ?_; refine tkA 5 HK hS ?_)
 clear HK
 refine oA 6 fun K hK => ?_
 go_simp
 refine (KS.out _ (by exact (HCK.out.own.ext ((Ext.refl _).drew)).rd)).mono ?_
 rintro e w2 ⟨⟨t0', t1', t2', ti, tg, tv⟩, rfl, hx, ho⟩
 obtain ⟨C0, kC0, rfl⟩ : ∃ B d, t0' = .slice B R1.ledger.tickets.length d := ho.tk.form
 obtain ⟨C1, kC1, rfl⟩ : ∃ B d, t1' = .slice B R1.ledger.taps.length d := ho.tp.form
 obtain ⟨C2, kC2, rfl⟩ : ∃ B d, t2' = .slice B R1.ledger.verdicts.length d := ho.vd.form
 obtain ⟨C3, kC3, rfl⟩ : ∃ B d, ti = .slice B R1.denied.ids.length d := ho.dn.form
 obtain ⟨C4, kC4, rfl⟩ : ∃ B d, tg = .slice B R1.gates.length d := ho.gt.form
 obtain ⟨C5, kC5, rfl⟩ : ∃ B d, tv = .slice B R1.views.length d := ho.vw.form
 rw [show sta R1 ⟨.slice C0 R1.ledger.tickets.length kC0, .slice C1 R1.ledger.taps.length kC1, .slice C2 R1.ledger.verdicts.length kC2, .slice C3 R1.denied.ids.length kC3, .slice C4 R1.gates.length kC4, .slice C5 R1.views.length kC5⟩ = #[.slice C0 R1.ledger.tickets.length kC0, .slice C1 R1.ledger.taps.length kC1, .slice C2 R1.ledger.verdicts.length kC2, .int .i64 R1.denied.version, .slice C3 R1.denied.ids.length kC3, .slice C4 R1.gates.length kC4, .slice C5 R1.views.length kC5] from rfl]
 have hx2 := Ext.trans ((Ext.refl W).drew) hx
 have HO := Lib.hid ho
 have HCK2 := Lib.hid (HCK.out.ext hx2)
 have HB22 := Lib.hid (HB2W.out.ext hx2)
 have HB32 := Lib.hid (HB3W.out.ext hx2)
 have HB62 := Lib.hid (HB6.out.ext hx2)
 have HXW2 := Lib.hid (And.intro trivial (HXW.out.trans hx2))
 have hz2 := HXW2.out.2.size
 have hbW : base ≤ W.heap.size := by omega
 (try simp only [lSz] at HO)
 clear hx hx2 ho hS KS
 have q6 := HB62.out.row.2.1
 have f6 := HB62.out.row.2.2
 have l6 := HB62.out.lt
 have qp := HCK2.out.box.row.2.1
 have fp := HCK2.out.box.row.2.2
 have lp := HCK2.out.box.lt
 unfold cka at qp
 simp only at qp
 have hS : ∃ m, Ck base w2 p ⟨.slice B0 s.ledger.tickets.length kB0, .slice B1 s.ledger.taps.length kB1, .slice B2 s.ledger.verdicts.length kB2, .slice B3 s.denied.ids.length kB3, .slice B4 s.gates.length kB4, .slice B5 s.views.length kB5⟩ s m ∧ Bx w2 w.heap.size 124 #[.pointer (some ⟨p, 0, none⟩)] ∧ Bx w2 (w.heap.size + 1) 71 #[.int .i64 1, .int .i64 id, .int .i64 of, .int .i64 time, .int .i64 t0, .int .i64 t1, .int .i64 t2, .int .i64 t3, .int .i64 t4, .int .i64 t5] := ⟨n, HCK2.out, HB22.out, HB32.out⟩
 go_wp2_with fail
 (refine hK.out _ _ (.inr hS) ?_; clear hK; (try simp only [Act.put, lSet]))
 (refine tkP 7 ?_; refine tkP 8 ?_; refine tkP 9 ?_)
 clear hS
 have hf3 : Fr (fun q => q = w1.heap.size) w2 (((((((w2.setCell ⟨w1.heap.size, 0, none⟩ (.slice C0 R1.ledger.tickets.length kC0)).setCell ⟨w1.heap.size, 1, none⟩ (.slice C1 R1.ledger.taps.length kC1)).setCell ⟨w1.heap.size, 2, none⟩ (.slice C2 R1.ledger.verdicts.length kC2)).setCell ⟨w1.heap.size, 3, none⟩ (.int .i64 R1.denied.version)).setCell ⟨w1.heap.size, 4, none⟩ (.slice C3 R1.denied.ids.length kC3)).setCell ⟨w1.heap.size, 5, none⟩ (.slice C4 R1.gates.length kC4)).setCell ⟨w1.heap.size, 6, none⟩ (.slice C5 R1.views.length kC5)) := Fr.setC rfl (Fr.setC rfl (Fr.setC rfl (Fr.setC rfl (Fr.setC rfl (Fr.setC rfl (Fr.setC rfl (Fr.refl _ _)))))))
 have hnb : ∀ q, (fun q => q = w1.heap.size) q → ∃ e2 cs, Bx w2 q e2 cs ∧ e2 ∉ spT := by rintro q rfl; exact ⟨_, _, HB62.out, by decide⟩
 have HCK3 := Lib.hid (show Ck base (((((((w2.setCell ⟨w1.heap.size, 0, none⟩ (.slice C0 R1.ledger.tickets.length kC0)).setCell ⟨w1.heap.size, 1, none⟩ (.slice C1 R1.ledger.taps.length kC1)).setCell ⟨w1.heap.size, 2, none⟩ (.slice C2 R1.ledger.verdicts.length kC2)).setCell ⟨w1.heap.size, 3, none⟩ (.int .i64 R1.denied.version)).setCell ⟨w1.heap.size, 4, none⟩ (.slice C3 R1.denied.ids.length kC3)).setCell ⟨w1.heap.size, 5, none⟩ (.slice C4 R1.gates.length kC4)).setCell ⟨w1.heap.size, 6, none⟩ (.slice C5 R1.views.length kC5)) p ⟨.slice B0 s.ledger.tickets.length kB0, .slice B1 s.ledger.taps.length kB1, .slice B2 s.ledger.verdicts.length kB2, .slice B3 s.denied.ids.length kB3, .slice B4 s.gates.length kB4, .slice B5 s.views.length kB5⟩ s n from ⟨HCK2.out.box.fr hf3 (by intro h; have h2 : p = w1.heap.size := h; omega), HCK2.out.ge, HCK2.out.own.keep hf3 hnb⟩)
 have HB23 := Lib.hid (HB22.out.fr hf3 (by intro h; have h2 : w.heap.size = w1.heap.size := h; omega))
 have HB33 := Lib.hid (HB32.out.fr hf3 (by intro h; have h2 : w.heap.size + 1 = w1.heap.size := h; omega))
 have HB63 := Lib.hid (show Bx (((((((w2.setCell ⟨w1.heap.size, 0, none⟩ (.slice C0 R1.ledger.tickets.length kC0)).setCell ⟨w1.heap.size, 1, none⟩ (.slice C1 R1.ledger.taps.length kC1)).setCell ⟨w1.heap.size, 2, none⟩ (.slice C2 R1.ledger.verdicts.length kC2)).setCell ⟨w1.heap.size, 3, none⟩ (.int .i64 R1.denied.version)).setCell ⟨w1.heap.size, 4, none⟩ (.slice C3 R1.denied.ids.length kC3)).setCell ⟨w1.heap.size, 5, none⟩ (.slice C4 R1.gates.length kC4)).setCell ⟨w1.heap.size, 6, none⟩ (.slice C5 R1.views.length kC5)) w1.heap.size 32 #[.slice C0 R1.ledger.tickets.length kC0, .slice C1 R1.ledger.taps.length kC1, .slice C2 R1.ledger.verdicts.length kC2, .int .i64 R1.denied.version, .slice C3 R1.denied.ids.length kC3, .slice C4 R1.gates.length kC4, .slice C5 R1.views.length kC5] from bxC (((((((HB62.out.set (i := 0)).set (i := 1)).set (i := 2)).set (i := 3)).set (i := 4)).set (i := 5)).set (i := 6)) (by simp only [lSet]))
 have HO3 := Lib.hid (HO.out.keep hf3 hnb)
 have HF3 := Lib.hid (show Fr (fun q => q = p) w (((((((w2.setCell ⟨w1.heap.size, 0, none⟩ (.slice C0 R1.ledger.tickets.length kC0)).setCell ⟨w1.heap.size, 1, none⟩ (.slice C1 R1.ledger.taps.length kC1)).setCell ⟨w1.heap.size, 2, none⟩ (.slice C2 R1.ledger.verdicts.length kC2)).setCell ⟨w1.heap.size, 3, none⟩ (.int .i64 R1.denied.version)).setCell ⟨w1.heap.size, 4, none⟩ (.slice C3 R1.denied.ids.length kC3)).setCell ⟨w1.heap.size, 5, none⟩ (.slice C4 R1.gates.length kC4)).setCell ⟨w1.heap.size, 6, none⟩ (.slice C5 R1.views.length kC5)) from Fr.ofExt (ext7 (by omega) HXW2.out.2))
 clear hnb hf3
 refine oA 10 fun K hK => ?_
 go_simp
 refine hK.out _ _ (.inr (by exact ⟨n, HCK3.out, HB23.out, HB33.out⟩)) ?_
 clear hK
 (try simp only [Act.put, lSet])
 clear q6 f6 l6 qp fp lp
 refine oA 11 fun K hK => ?_
 go_simp
 refine hK.out _ _ (.inl (by kernel_rfl)) ?_
 clear hK
 (try simp only [Act.put, lSet])
 refine T_done (by kernel_rfl) ?_ _
 have HVF := Lib.hid HF3.out
 have HVK := Lib.hid HCK3.out
 have HVO := Lib.hid HO3.out
 have q6 := HB63.out.row.2.1
 have f6 := HB63.out.row.2.2
 have l6 := HB63.out.lt
 have q2 := HB23.out.row.2.1
 have f2 := HB23.out.row.2.2
 have l2 := HB23.out.lt
 have qp := HCK3.out.box.row.2.1
 have fp := HCK3.out.box.row.2.2
 have lp := HCK3.out.box.lt
 unfold cka at qp
 simp only at qp
 clear HCK HCK2 HB2W HB3W HB6 HB22 HB32 HB62 HO HXW HXW2
 obtain ⟨V, hV⟩ : ∃ V, V = (((((((w2.setCell ⟨w1.heap.size, 0, none⟩ (.slice C0 R1.ledger.tickets.length kC0)).setCell ⟨w1.heap.size, 1, none⟩ (.slice C1 R1.ledger.taps.length kC1)).setCell ⟨w1.heap.size, 2, none⟩ (.slice C2 R1.ledger.verdicts.length kC2)).setCell ⟨w1.heap.size, 3, none⟩ (.int .i64 R1.denied.version)).setCell ⟨w1.heap.size, 4, none⟩ (.slice C3 R1.denied.ids.length kC3)).setCell ⟨w1.heap.size, 5, none⟩ (.slice C4 R1.gates.length kC4)).setCell ⟨w1.heap.size, 6, none⟩ (.slice C5 R1.views.length kC5)) := ⟨_, rfl⟩
 rw [← hV] at HVF HVK HVO q6 f6 l6 q2 f2 l2 qp fp lp
 rw [← hV]
 clear hV HCK3 HB23 HB33 HB63 HO3 HF3
 by_cases h0 : R3 = 0
 ·have h0b : (R3 == 0) = true := by simpa using h0
  have HQ := Lib.hid (show D = (R1, n, R3) by rw [HD.out, if_pos h0])
  clear h0
  go_wp2_with fail
  go_ret
  rw [HQ.out]
  have hput := HVK.out.put HVO.out (by omega)
  have hfin : Fr (fun q => q = p) w (putCk V p R1 ⟨.slice C0 R1.ledger.tickets.length kC0, .slice C1 R1.ledger.taps.length kC1, .slice C2 R1.ledger.verdicts.length kC2, .slice C3 R1.denied.ids.length kC3, .slice C4 R1.gates.length kC4, .slice C5 R1.views.length kC5⟩) := putCk_fr rfl HVF.out
  dsimp only [putCk] at hput hfin
  exact ⟨rfl, hfin, _, hput⟩
 ·have h0b : (R3 == 0) = false := by simpa using h0
  have HQ := Lib.hid (show D = (s, n, R3) by rw [HD.out, if_neg h0])
  clear h0
  go_wp2_with fail
  go_ret
  rw [HQ.out]
  exact ⟨rfl, HVF.out, _, HVK.out⟩

theorem clerk_do_2 (s : St) (y : Sv) (n : Int) (a : Ac) (p base : Nat) (w : World) (hk : Ck base w p y s n) (rs : RightS s) (hf : formA a = 0) (hkd : a.kind = 2) :
  Calls Tryz.prog 91 #[.pointer (some ⟨p, 0, none⟩), .agg (acc a)] w fun e w' => e = .returned (.int .i64 (orSt (actS s n a) s).2.2) ∧ Fr (fun q => q = p) w w' ∧ ∃ y', Ck base w' p y' (orSt (actS s n a) s).1 (orSt (actS s n a) s).2.1 := by
 have KF := Lib.hid (fun (w' : World) => hf ▸ desk_form a w')
 obtain ⟨D, hD⟩ : ∃ D, D = orSt (actS s n a) s := ⟨_, rfl⟩
 rw [← hD]
 obtain ⟨k, id, of, time, ⟨t0, t1, t2, t3, t4, t5⟩⟩ := a
 simp only at hkd
 obtain ⟨s0, s1, s2, si, sg, sv⟩ := y
 obtain ⟨B0, kB0, rfl⟩ : ∃ B d, s0 = .slice B s.ledger.tickets.length d := hk.own.tk.form
 obtain ⟨B1, kB1, rfl⟩ : ∃ B d, s1 = .slice B s.ledger.taps.length d := hk.own.tp.form
 obtain ⟨B2, kB2, rfl⟩ : ∃ B d, s2 = .slice B s.ledger.verdicts.length d := hk.own.vd.form
 obtain ⟨B3, kB3, rfl⟩ : ∃ B d, si = .slice B s.denied.ids.length d := hk.own.dn.form
 obtain ⟨B4, kB4, rfl⟩ : ∃ B d, sg = .slice B s.gates.length d := hk.own.gt.form
 obtain ⟨B5, kB5, rfl⟩ : ∃ B d, sv = .slice B s.views.length d := hk.own.vw.form
 have HK := Lib.hid hk
 have RB := Lib.hid hk.box.row
 unfold cka at RB
 simp only at RB
 have hpw := hk.box.lt
 have hge := hk.ge
 have HRS := Lib.hid rs
 obtain ⟨qp, fp, lp⟩ : (∀ o, w.cell? ⟨p, o, none⟩ = _) ∧ (∀ o, w.frozen? ⟨p, o, none⟩ = false) ∧ p < w.heap.size := ⟨RB.out.2.1, RB.out.2.2, RB.out.1⟩
 unfold acc at KF ⊢
 simp only at KF ⊢
 subst hkd
 have hD2 : D = if (tapRaw s id of time).2.2 = 0 then ((tapRaw s id of time).1, (tapRaw s id of time).2.1, (tapRaw s id of time).2.2) else (s, (tapRaw s id of time).2.1, (tapRaw s id of time).2.2) := by
  rw [hD]
  unfold orSt actS
  simp
  try rfl
 have KS := Lib.hid (fun (w' : World) (h : RdS w' ⟨.slice B0 s.ledger.tickets.length kB0, .slice B1 s.ledger.taps.length kB1, .slice B2 s.ledger.verdicts.length kB2, .slice B3 s.denied.ids.length kB3, .slice B4 s.gates.length kB4, .slice B5 s.views.length kB5⟩ s) => station_RawTap s ⟨.slice B0 s.ledger.tickets.length kB0, .slice B1 s.ledger.taps.length kB1, .slice B2 s.ledger.verdicts.length kB2, .slice B3 s.denied.ids.length kB3, .slice B4 s.gates.length kB4, .slice B5 s.views.length kB5⟩ id of time w' h HRS.out)
 generalize tapRaw s id of time = R at *
 have HD := Lib.hid hD2
 clear hD2
 obtain ⟨R1, R2, R3⟩ := R
 simp only at KS HD
 clear hk rs hf hD
 go_enter Tryz.func91, Tryz.ntmps91
 go_wp2_with fail
 (refine gA (KF.out _) fun w1 H1 hz1 => ?_; (try simp only [lSz] at hz1); refine rowU w1 p fun q1_0 f1_0 l1_0 R1_0 => ?_; refine rowU w1 w.heap.size fun q1_1 f1_1 l1_1 R1_1 => ?_; refine rowU w1 (w.heap.size + 1) fun q1_2 f1_2 l1_2 R1_2 => ?_)
 have HB2 := Lib.hid (show Bx w1 w.heap.size 124 #[.pointer (some ⟨p, 0, none⟩)] from Bx.ext (Bx.alloc (Bx.newAt rfl) _) H1.out)
 have HB3 := Lib.hid (show Bx w1 (w.heap.size + 1) 71 #[.int .i64 2, .int .i64 id, .int .i64 of, .int .i64 time, .int .i64 t0, .int .i64 t1, .int .i64 t2, .int .i64 t3, .int .i64 t4, .int .i64 t5] from Bx.ext (Bx.newAt (by simp)) H1.out)
 go_upto_region 10 with fail
 have HCK1 := Lib.hid (HK.out.ext (extA : Ext w w1))
 refine wp_genP (S := fun W => Ext w W ∧ w1.heap.size < W.heap.size ∧ (Ck base W p ⟨.slice B0 s.ledger.tickets.length kB0, .slice B1 s.ledger.taps.length kB1, .slice B2 s.ledger.verdicts.length kB2, .slice B3 s.denied.ids.length kB3, .slice B4 s.gates.length kB4, .slice B5 s.views.length kB5⟩ s n ∧ Bx W w.heap.size 124 #[.pointer (some ⟨p, 0, none⟩)] ∧ Bx W (w.heap.size + 1) 71 #[.int .i64 2, .int .i64 id, .int .i64 of, .int .i64 time, .int .i64 t0, .int .i64 t1, .int .i64 t2, .int .i64 t3, .int .i64 t4, .int .i64 t5]) ∧ Bx W w1.heap.size 32 #[.slice B0 s.ledger.tickets.length kB0, .slice B1 s.ledger.taps.length kB1, .slice B2 s.ledger.verdicts.length kB2, .int .i64 s.denied.version, .slice B3 s.denied.ids.length kB3, .slice B4 s.gates.length kB4, .slice B5 s.views.length kB5]) ⟨by exact extA, by simp, ⟨HCK1.out.ext ((Ext.refl _).alloc _), HB2.out.ext ((Ext.refl _).alloc _), HB3.out.ext ((Ext.refl _).alloc _)⟩, Bx.newAt rfl⟩ ?_
 intro W hS
 obtain ⟨hxw, hgw, ⟨hck, hb2, hb3⟩, hb6⟩ := hS.out
 have HXW := Lib.hid hxw
 have HCK := Lib.hid hck
 have HB2W := Lib.hid hb2
 have HB3W := Lib.hid hb3
 have HB6 := Lib.hid hb6
 have hpW := hck.box.lt
 have hzW := hxw.size
 have hz1 := H1.out.size
 (try simp only [World.size_alloc] at hz1)
 clear hS hxw hck hb2 hb3 hb6 HCK1 HB2 HB3 q1_0 f1_0 l1_0 R1_0 q1_1 f1_1 l1_1 R1_1 q1_2 f1_2 l1_2 R1_2 qp fp KF RB
 have HK0 := HK
 clear HK
 have HK := Lib.hid (fun (w' : World) (h : ∃ m, Ck base w' p ⟨.slice B0 s.ledger.tickets.length kB0, .slice B1 s.ledger.taps.length kB1, .slice B2 s.ledger.verdicts.length kB2, .slice B3 s.denied.ids.length kB3, .slice B4 s.gates.length kB4, .slice B5 s.views.length kB5⟩ s m ∧ Bx w' w.heap.size 124 #[.pointer (some ⟨p, 0, none⟩)] ∧ Bx w' (w.heap.size + 1) 71 #[.int .i64 2, .int .i64 id, .int .i64 of, .int .i64 time, .int .i64 t0, .int .i64 t1, .int .i64 t2, .int .i64 t3, .int .i64 t4, .int .i64 t5]) => (show (w'.cell? ⟨p, 0, none⟩ = some (.slice B0 s.ledger.tickets.length kB0) ∧ w'.cell? ⟨p, 1, none⟩ = some (.slice B1 s.ledger.taps.length kB1) ∧ w'.cell? ⟨p, 2, none⟩ = some (.slice B2 s.ledger.verdicts.length kB2) ∧ w'.cell? ⟨p, 3, none⟩ = some (.int .i64 s.denied.version) ∧ w'.cell? ⟨p, 4, none⟩ = some (.slice B3 s.denied.ids.length kB3) ∧ w'.cell? ⟨p, 5, none⟩ = some (.slice B4 s.gates.length kB4) ∧ w'.cell? ⟨p, 6, none⟩ = some (.slice B5 s.views.length kB5)) ∧ (∀ o, w'.cell? ⟨w.heap.size, o, none⟩ = (#[.pointer (some ⟨p, 0, none⟩)] : Array Value)[o]?) ∧ (∀ o, w'.cell? ⟨w.heap.size + 1, o, none⟩ = (#[.int .i64 2, .int .i64 id, .int .i64 of, .int .i64 time, .int .i64 t0, .int .i64 t1, .int .i64 t2, .int .i64 t3, .int .i64 t4, .int .i64 t5] : Array Value)[o]?) by
  obtain ⟨m, h1, h2, h3⟩ := h
  have hr := h1.box.row.2.1
  exact ⟨⟨hr 0, hr 1, hr 2, hr 3, hr 4, hr 5, hr 6⟩, h2.row.2.1, h3.row.2.1⟩))
 (refine T_begin (fun w' => ∃ m, Ck base w' p ⟨.slice B0 s.ledger.tickets.length kB0, .slice B1 s.ledger.taps.length kB1, .slice B2 s.ledger.verdicts.length kB2, .slice B3 s.denied.ids.length kB3, .slice B4 s.gates.length kB4, .slice B5 s.views.length kB5⟩ s m ∧ Bx w' w.heap.size 124 #[.pointer (some ⟨p, 0, none⟩)] ∧ Bx w' (w.heap.size + 1) 71 #[.int .i64 2, .int .i64 id, .int .i64 of, .int .i64 time, .int .i64 t0, .int .i64 t1, .int .i64 t2, .int .i64 t3, .int .i64 t4, .int .i64 t5]) 20 (by kernel_rfl) (Exists.intro n (And.intro (HCK.out.ext ((Ext.refl _).drew)) (And.intro HB2W.out.drew HB3W.out.drew))) (fun hS => ?_); simp only [List.length_cons, List.length_nil])
 (refine tkA 0 HK hS ?_; refine tkA 1 HK hS ?_; refine tkA 2 HK hS ?_; refine tkA 3 HK hS ?_; refine tkA 4 HK hS ?_; refine tkA 5 HK hS ?_; refine tkA 6 HK hS ?_; refine tkA 7 HK hS ?_; refine tkA 8 HK hS ?_; refine tkA 9 HK hS ?_; refine tkA 10 HK hS ?_)
 clear HK
 refine oA 11 fun K hK => ?_
 go_simp
 refine (KS.out _ (by exact (HCK.out.own.ext ((Ext.refl _).drew)).rd)).mono ?_
 rintro e w2 ⟨⟨t0', t1', t2', ti, tg, tv⟩, rfl, hx, ho⟩
 obtain ⟨C0, kC0, rfl⟩ : ∃ B d, t0' = .slice B R1.ledger.tickets.length d := ho.tk.form
 obtain ⟨C1, kC1, rfl⟩ : ∃ B d, t1' = .slice B R1.ledger.taps.length d := ho.tp.form
 obtain ⟨C2, kC2, rfl⟩ : ∃ B d, t2' = .slice B R1.ledger.verdicts.length d := ho.vd.form
 obtain ⟨C3, kC3, rfl⟩ : ∃ B d, ti = .slice B R1.denied.ids.length d := ho.dn.form
 obtain ⟨C4, kC4, rfl⟩ : ∃ B d, tg = .slice B R1.gates.length d := ho.gt.form
 obtain ⟨C5, kC5, rfl⟩ : ∃ B d, tv = .slice B R1.views.length d := ho.vw.form
 rw [show sta R1 ⟨.slice C0 R1.ledger.tickets.length kC0, .slice C1 R1.ledger.taps.length kC1, .slice C2 R1.ledger.verdicts.length kC2, .slice C3 R1.denied.ids.length kC3, .slice C4 R1.gates.length kC4, .slice C5 R1.views.length kC5⟩ = #[.slice C0 R1.ledger.tickets.length kC0, .slice C1 R1.ledger.taps.length kC1, .slice C2 R1.ledger.verdicts.length kC2, .int .i64 R1.denied.version, .slice C3 R1.denied.ids.length kC3, .slice C4 R1.gates.length kC4, .slice C5 R1.views.length kC5] from rfl]
 have hx2 := Ext.trans ((Ext.refl W).drew) hx
 have HO := Lib.hid ho
 have HCK2 := Lib.hid (HCK.out.ext hx2)
 have HB22 := Lib.hid (HB2W.out.ext hx2)
 have HB32 := Lib.hid (HB3W.out.ext hx2)
 have HB62 := Lib.hid (HB6.out.ext hx2)
 have HXW2 := Lib.hid (And.intro trivial (HXW.out.trans hx2))
 have hz2 := HXW2.out.2.size
 have hbW : base ≤ W.heap.size := by omega
 (try simp only [lSz] at HO)
 clear hx hx2 ho hS KS
 have q6 := HB62.out.row.2.1
 have f6 := HB62.out.row.2.2
 have l6 := HB62.out.lt
 have qp := HCK2.out.box.row.2.1
 have fp := HCK2.out.box.row.2.2
 have lp := HCK2.out.box.lt
 unfold cka at qp
 simp only at qp
 have hS : ∃ m, Ck base w2 p ⟨.slice B0 s.ledger.tickets.length kB0, .slice B1 s.ledger.taps.length kB1, .slice B2 s.ledger.verdicts.length kB2, .slice B3 s.denied.ids.length kB3, .slice B4 s.gates.length kB4, .slice B5 s.views.length kB5⟩ s m ∧ Bx w2 w.heap.size 124 #[.pointer (some ⟨p, 0, none⟩)] ∧ Bx w2 (w.heap.size + 1) 71 #[.int .i64 2, .int .i64 id, .int .i64 of, .int .i64 time, .int .i64 t0, .int .i64 t1, .int .i64 t2, .int .i64 t3, .int .i64 t4, .int .i64 t5] := ⟨n, HCK2.out, HB22.out, HB32.out⟩
 go_wp2_with fail
 (refine hK.out _ _ (.inr hS) ?_; clear hK; (try simp only [Act.put, lSet]))
 (refine tkP 12 ?_; refine tkP 13 ?_; refine tkP 14 ?_; refine tkP 15 ?_)
 clear hS
 have hf3 : Fr (fun q => q = w1.heap.size) w2 (((((((w2.setCell ⟨w1.heap.size, 0, none⟩ (.slice C0 R1.ledger.tickets.length kC0)).setCell ⟨w1.heap.size, 1, none⟩ (.slice C1 R1.ledger.taps.length kC1)).setCell ⟨w1.heap.size, 2, none⟩ (.slice C2 R1.ledger.verdicts.length kC2)).setCell ⟨w1.heap.size, 3, none⟩ (.int .i64 R1.denied.version)).setCell ⟨w1.heap.size, 4, none⟩ (.slice C3 R1.denied.ids.length kC3)).setCell ⟨w1.heap.size, 5, none⟩ (.slice C4 R1.gates.length kC4)).setCell ⟨w1.heap.size, 6, none⟩ (.slice C5 R1.views.length kC5)) := Fr.setC rfl (Fr.setC rfl (Fr.setC rfl (Fr.setC rfl (Fr.setC rfl (Fr.setC rfl (Fr.setC rfl (Fr.refl _ _)))))))
 have hnb : ∀ q, (fun q => q = w1.heap.size) q → ∃ e2 cs, Bx w2 q e2 cs ∧ e2 ∉ spT := by rintro q rfl; exact ⟨_, _, HB62.out, by decide⟩
 have HCK3 := Lib.hid (show Ck base (((((((w2.setCell ⟨w1.heap.size, 0, none⟩ (.slice C0 R1.ledger.tickets.length kC0)).setCell ⟨w1.heap.size, 1, none⟩ (.slice C1 R1.ledger.taps.length kC1)).setCell ⟨w1.heap.size, 2, none⟩ (.slice C2 R1.ledger.verdicts.length kC2)).setCell ⟨w1.heap.size, 3, none⟩ (.int .i64 R1.denied.version)).setCell ⟨w1.heap.size, 4, none⟩ (.slice C3 R1.denied.ids.length kC3)).setCell ⟨w1.heap.size, 5, none⟩ (.slice C4 R1.gates.length kC4)).setCell ⟨w1.heap.size, 6, none⟩ (.slice C5 R1.views.length kC5)) p ⟨.slice B0 s.ledger.tickets.length kB0, .slice B1 s.ledger.taps.length kB1, .slice B2 s.ledger.verdicts.length kB2, .slice B3 s.denied.ids.length kB3, .slice B4 s.gates.length kB4, .slice B5 s.views.length kB5⟩ s n from ⟨HCK2.out.box.fr hf3 (by intro h; have h2 : p = w1.heap.size := h; omega), HCK2.out.ge, HCK2.out.own.keep hf3 hnb⟩)
 have HB23 := Lib.hid (HB22.out.fr hf3 (by intro h; have h2 : w.heap.size = w1.heap.size := h; omega))
 have HB33 := Lib.hid (HB32.out.fr hf3 (by intro h; have h2 : w.heap.size + 1 = w1.heap.size := h; omega))
 have HB63 := Lib.hid (show Bx (((((((w2.setCell ⟨w1.heap.size, 0, none⟩ (.slice C0 R1.ledger.tickets.length kC0)).setCell ⟨w1.heap.size, 1, none⟩ (.slice C1 R1.ledger.taps.length kC1)).setCell ⟨w1.heap.size, 2, none⟩ (.slice C2 R1.ledger.verdicts.length kC2)).setCell ⟨w1.heap.size, 3, none⟩ (.int .i64 R1.denied.version)).setCell ⟨w1.heap.size, 4, none⟩ (.slice C3 R1.denied.ids.length kC3)).setCell ⟨w1.heap.size, 5, none⟩ (.slice C4 R1.gates.length kC4)).setCell ⟨w1.heap.size, 6, none⟩ (.slice C5 R1.views.length kC5)) w1.heap.size 32 #[.slice C0 R1.ledger.tickets.length kC0, .slice C1 R1.ledger.taps.length kC1, .slice C2 R1.ledger.verdicts.length kC2, .int .i64 R1.denied.version, .slice C3 R1.denied.ids.length kC3, .slice C4 R1.gates.length kC4, .slice C5 R1.views.length kC5] from bxC (((((((HB62.out.set (i := 0)).set (i := 1)).set (i := 2)).set (i := 3)).set (i := 4)).set (i := 5)).set (i := 6)) (by simp only [lSet]))
 have HO3 := Lib.hid (HO.out.keep hf3 hnb)
 have HF3 := Lib.hid (show Fr (fun q => q = p) w (((((((w2.setCell ⟨w1.heap.size, 0, none⟩ (.slice C0 R1.ledger.tickets.length kC0)).setCell ⟨w1.heap.size, 1, none⟩ (.slice C1 R1.ledger.taps.length kC1)).setCell ⟨w1.heap.size, 2, none⟩ (.slice C2 R1.ledger.verdicts.length kC2)).setCell ⟨w1.heap.size, 3, none⟩ (.int .i64 R1.denied.version)).setCell ⟨w1.heap.size, 4, none⟩ (.slice C3 R1.denied.ids.length kC3)).setCell ⟨w1.heap.size, 5, none⟩ (.slice C4 R1.gates.length kC4)).setCell ⟨w1.heap.size, 6, none⟩ (.slice C5 R1.views.length kC5)) from Fr.ofExt (ext7 (by omega) HXW2.out.2))
 clear hnb hf3
 refine oA 16 fun K hK => ?_
 go_simp
 refine hK.out _ _ (.inr (by exact ⟨n, HCK3.out, HB23.out, HB33.out⟩)) ?_
 clear hK
 (try simp only [Act.put, lSet])
 have hS : ∃ m, Ck base (((((((w2.setCell ⟨w1.heap.size, 0, none⟩ (.slice C0 R1.ledger.tickets.length kC0)).setCell ⟨w1.heap.size, 1, none⟩ (.slice C1 R1.ledger.taps.length kC1)).setCell ⟨w1.heap.size, 2, none⟩ (.slice C2 R1.ledger.verdicts.length kC2)).setCell ⟨w1.heap.size, 3, none⟩ (.int .i64 R1.denied.version)).setCell ⟨w1.heap.size, 4, none⟩ (.slice C3 R1.denied.ids.length kC3)).setCell ⟨w1.heap.size, 5, none⟩ (.slice C4 R1.gates.length kC4)).setCell ⟨w1.heap.size, 6, none⟩ (.slice C5 R1.views.length kC5)) p ⟨.slice B0 s.ledger.tickets.length kB0, .slice B1 s.ledger.taps.length kB1, .slice B2 s.ledger.verdicts.length kB2, .slice B3 s.denied.ids.length kB3, .slice B4 s.gates.length kB4, .slice B5 s.views.length kB5⟩ s m ∧ Bx (((((((w2.setCell ⟨w1.heap.size, 0, none⟩ (.slice C0 R1.ledger.tickets.length kC0)).setCell ⟨w1.heap.size, 1, none⟩ (.slice C1 R1.ledger.taps.length kC1)).setCell ⟨w1.heap.size, 2, none⟩ (.slice C2 R1.ledger.verdicts.length kC2)).setCell ⟨w1.heap.size, 3, none⟩ (.int .i64 R1.denied.version)).setCell ⟨w1.heap.size, 4, none⟩ (.slice C3 R1.denied.ids.length kC3)).setCell ⟨w1.heap.size, 5, none⟩ (.slice C4 R1.gates.length kC4)).setCell ⟨w1.heap.size, 6, none⟩ (.slice C5 R1.views.length kC5)) w.heap.size 124 #[.pointer (some ⟨p, 0, none⟩)] ∧ Bx (((((((w2.setCell ⟨w1.heap.size, 0, none⟩ (.slice C0 R1.ledger.tickets.length kC0)).setCell ⟨w1.heap.size, 1, none⟩ (.slice C1 R1.ledger.taps.length kC1)).setCell ⟨w1.heap.size, 2, none⟩ (.slice C2 R1.ledger.verdicts.length kC2)).setCell ⟨w1.heap.size, 3, none⟩ (.int .i64 R1.denied.version)).setCell ⟨w1.heap.size, 4, none⟩ (.slice C3 R1.denied.ids.length kC3)).setCell ⟨w1.heap.size, 5, none⟩ (.slice C4 R1.gates.length kC4)).setCell ⟨w1.heap.size, 6, none⟩ (.slice C5 R1.views.length kC5)) (w.heap.size + 1) 71 #[.int .i64 2, .int .i64 id, .int .i64 of, .int .i64 time, .int .i64 t0, .int .i64 t1, .int .i64 t2, .int .i64 t3, .int .i64 t4, .int .i64 t5] := ⟨n, HCK3.out, HB23.out, HB33.out⟩
 (refine tkP 17 ?_; refine tkP 18 ?_)
 clear hS
 refine oA 19 fun K hK => ?_
 go_simp
 have HCK4 := Lib.hid (HCK3.out.num R2)
 have HB24 := Lib.hid (Bx.far (a := ⟨p, 7, none⟩) (u := .int .i64 R2) (show w.heap.size ≠ p by omega) HB23.out)
 have HB34 := Lib.hid (Bx.far (a := ⟨p, 7, none⟩) (u := .int .i64 R2) (show w.heap.size + 1 ≠ p by omega) HB33.out)
 have HB64 := Lib.hid (Bx.far (a := ⟨p, 7, none⟩) (u := .int .i64 R2) (show w1.heap.size ≠ p by omega) HB63.out)
 have HO4 := Lib.hid (HO3.out.keep (own := fun q => q = p) (Fr.setC (a := ⟨p, 7, none⟩) (u := .int .i64 R2) rfl (Fr.refl _ _)) (by rintro q rfl; exact ⟨_, _, HCK3.out.box, by decide⟩))
 have HF4 := Lib.hid (show Fr (fun q => q = p) w ((((((((w2.setCell ⟨w1.heap.size, 0, none⟩ (.slice C0 R1.ledger.tickets.length kC0)).setCell ⟨w1.heap.size, 1, none⟩ (.slice C1 R1.ledger.taps.length kC1)).setCell ⟨w1.heap.size, 2, none⟩ (.slice C2 R1.ledger.verdicts.length kC2)).setCell ⟨w1.heap.size, 3, none⟩ (.int .i64 R1.denied.version)).setCell ⟨w1.heap.size, 4, none⟩ (.slice C3 R1.denied.ids.length kC3)).setCell ⟨w1.heap.size, 5, none⟩ (.slice C4 R1.gates.length kC4)).setCell ⟨w1.heap.size, 6, none⟩ (.slice C5 R1.views.length kC5)).setCell ⟨p, 7, none⟩ (.int .i64 R2)) from Fr.setC rfl HF3.out)
 refine hK.out _ _ (.inr (by exact ⟨R2, HCK4.out, HB24.out, HB34.out⟩)) ?_
 clear hK
 (try simp only [Act.put, lSet])
 clear q6 f6 l6 qp fp lp
 refine oA 20 fun K hK => ?_
 go_simp
 refine hK.out _ _ (.inl (by kernel_rfl)) ?_
 clear hK
 (try simp only [Act.put, lSet])
 refine T_done (by kernel_rfl) ?_ _
 have HVF := Lib.hid HF4.out
 have HVK := Lib.hid HCK4.out
 have HVO := Lib.hid HO4.out
 have q6 := HB64.out.row.2.1
 have f6 := HB64.out.row.2.2
 have l6 := HB64.out.lt
 have q2 := HB24.out.row.2.1
 have f2 := HB24.out.row.2.2
 have l2 := HB24.out.lt
 have qp := HCK4.out.box.row.2.1
 have fp := HCK4.out.box.row.2.2
 have lp := HCK4.out.box.lt
 unfold cka at qp
 simp only at qp
 clear HCK HCK2 HB2W HB3W HB6 HB22 HB32 HB62 HO HXW HXW2
 obtain ⟨V, hV⟩ : ∃ V, V = ((((((((w2.setCell ⟨w1.heap.size, 0, none⟩ (.slice C0 R1.ledger.tickets.length kC0)).setCell ⟨w1.heap.size, 1, none⟩ (.slice C1 R1.ledger.taps.length kC1)).setCell ⟨w1.heap.size, 2, none⟩ (.slice C2 R1.ledger.verdicts.length kC2)).setCell ⟨w1.heap.size, 3, none⟩ (.int .i64 R1.denied.version)).setCell ⟨w1.heap.size, 4, none⟩ (.slice C3 R1.denied.ids.length kC3)).setCell ⟨w1.heap.size, 5, none⟩ (.slice C4 R1.gates.length kC4)).setCell ⟨w1.heap.size, 6, none⟩ (.slice C5 R1.views.length kC5)).setCell ⟨p, 7, none⟩ (.int .i64 R2)) := ⟨_, rfl⟩
 rw [← hV] at HVF HVK HVO q6 f6 l6 q2 f2 l2 qp fp lp
 rw [← hV]
 clear hV HCK3 HB23 HB33 HB63 HO3 HF3 HCK4 HB24 HB34 HB64 HO4 HF4
 by_cases h0 : R3 = 0
 ·have h0b : (R3 == 0) = true := by simpa using h0
  have HQ := Lib.hid (show D = (R1, R2, R3) by rw [HD.out, if_pos h0])
  clear h0
  go_wp2_with fail
  go_ret
  rw [HQ.out]
  have hput := HVK.out.put HVO.out (by omega)
  have hfin : Fr (fun q => q = p) w (putCk V p R1 ⟨.slice C0 R1.ledger.tickets.length kC0, .slice C1 R1.ledger.taps.length kC1, .slice C2 R1.ledger.verdicts.length kC2, .slice C3 R1.denied.ids.length kC3, .slice C4 R1.gates.length kC4, .slice C5 R1.views.length kC5⟩) := putCk_fr rfl HVF.out
  dsimp only [putCk] at hput hfin
  exact ⟨rfl, hfin, _, hput⟩
 ·have h0b : (R3 == 0) = false := by simpa using h0
  have HQ := Lib.hid (show D = (s, R2, R3) by rw [HD.out, if_neg h0])
  clear h0
  go_wp2_with fail
  go_ret
  rw [HQ.out]
  exact ⟨rfl, HVF.out, _, HVK.out⟩

theorem clerk_do_4 (s : St) (y : Sv) (n : Int) (a : Ac) (p base : Nat) (w : World) (hk : Ck base w p y s n) (rs : RightS s) (hf : formA a = 0) (hkd : a.kind = 4) :
  Calls Tryz.prog 91 #[.pointer (some ⟨p, 0, none⟩), .agg (acc a)] w fun e w' => e = .returned (.int .i64 (orSt (actS s n a) s).2.2) ∧ Fr (fun q => q = p) w w' ∧ ∃ y', Ck base w' p y' (orSt (actS s n a) s).1 (orSt (actS s n a) s).2.1 := by
 have KF := Lib.hid (fun (w' : World) => hf ▸ desk_form a w')
 obtain ⟨D, hD⟩ : ∃ D, D = orSt (actS s n a) s := ⟨_, rfl⟩
 rw [← hD]
 obtain ⟨k, id, of, time, ⟨t0, t1, t2, t3, t4, t5⟩⟩ := a
 simp only at hkd
 obtain ⟨s0, s1, s2, si, sg, sv⟩ := y
 obtain ⟨B0, kB0, rfl⟩ : ∃ B d, s0 = .slice B s.ledger.tickets.length d := hk.own.tk.form
 obtain ⟨B1, kB1, rfl⟩ : ∃ B d, s1 = .slice B s.ledger.taps.length d := hk.own.tp.form
 obtain ⟨B2, kB2, rfl⟩ : ∃ B d, s2 = .slice B s.ledger.verdicts.length d := hk.own.vd.form
 obtain ⟨B3, kB3, rfl⟩ : ∃ B d, si = .slice B s.denied.ids.length d := hk.own.dn.form
 obtain ⟨B4, kB4, rfl⟩ : ∃ B d, sg = .slice B s.gates.length d := hk.own.gt.form
 obtain ⟨B5, kB5, rfl⟩ : ∃ B d, sv = .slice B s.views.length d := hk.own.vw.form
 have HK := Lib.hid hk
 have RB := Lib.hid hk.box.row
 unfold cka at RB
 simp only at RB
 have hpw := hk.box.lt
 have hge := hk.ge
 have HRS := Lib.hid rs
 obtain ⟨qp, fp, lp⟩ : (∀ o, w.cell? ⟨p, o, none⟩ = _) ∧ (∀ o, w.frozen? ⟨p, o, none⟩ = false) ∧ p < w.heap.size := ⟨RB.out.2.1, RB.out.2.2, RB.out.1⟩
 unfold acc at KF ⊢
 simp only at KF ⊢
 subst hkd
 have hD2 : D = if (syncRaw s of time).2.2 = 0 then ((syncRaw s of time).1, ((syncRaw s of time).2.1.length : Int), (syncRaw s of time).2.2) else (s, ((syncRaw s of time).2.1.length : Int), (syncRaw s of time).2.2) := by
  rw [hD]
  unfold orSt actS
  simp
  try rfl
 have KS := Lib.hid (fun (w' : World) (h : RdS w' ⟨.slice B0 s.ledger.tickets.length kB0, .slice B1 s.ledger.taps.length kB1, .slice B2 s.ledger.verdicts.length kB2, .slice B3 s.denied.ids.length kB3, .slice B4 s.gates.length kB4, .slice B5 s.views.length kB5⟩ s) => station_RawSync s ⟨.slice B0 s.ledger.tickets.length kB0, .slice B1 s.ledger.taps.length kB1, .slice B2 s.ledger.verdicts.length kB2, .slice B3 s.denied.ids.length kB3, .slice B4 s.gates.length kB4, .slice B5 s.views.length kB5⟩ of time w' h HRS.out)
 generalize syncRaw s of time = R at *
 have HD := Lib.hid hD2
 clear hD2
 obtain ⟨R1, R2, R3⟩ := R
 simp only at KS HD
 clear hk rs hf hD
 go_enter Tryz.func91, Tryz.ntmps91
 go_wp2_with fail
 (refine gA (KF.out _) fun w1 H1 hz1 => ?_; (try simp only [lSz] at hz1); refine rowU w1 p fun q1_0 f1_0 l1_0 R1_0 => ?_; refine rowU w1 w.heap.size fun q1_1 f1_1 l1_1 R1_1 => ?_; refine rowU w1 (w.heap.size + 1) fun q1_2 f1_2 l1_2 R1_2 => ?_)
 have HB2 := Lib.hid (show Bx w1 w.heap.size 124 #[.pointer (some ⟨p, 0, none⟩)] from Bx.ext (Bx.alloc (Bx.newAt rfl) _) H1.out)
 have HB3 := Lib.hid (show Bx w1 (w.heap.size + 1) 71 #[.int .i64 4, .int .i64 id, .int .i64 of, .int .i64 time, .int .i64 t0, .int .i64 t1, .int .i64 t2, .int .i64 t3, .int .i64 t4, .int .i64 t5] from Bx.ext (Bx.newAt (by simp)) H1.out)
 go_upto_region 13 with fail
 have HCK1 := Lib.hid (HK.out.ext (extA : Ext w w1))
 refine wp_genP (S := fun W => Ext w W ∧ w1.heap.size < W.heap.size ∧ (Ck base W p ⟨.slice B0 s.ledger.tickets.length kB0, .slice B1 s.ledger.taps.length kB1, .slice B2 s.ledger.verdicts.length kB2, .slice B3 s.denied.ids.length kB3, .slice B4 s.gates.length kB4, .slice B5 s.views.length kB5⟩ s n ∧ Bx W w.heap.size 124 #[.pointer (some ⟨p, 0, none⟩)] ∧ Bx W (w.heap.size + 1) 71 #[.int .i64 4, .int .i64 id, .int .i64 of, .int .i64 time, .int .i64 t0, .int .i64 t1, .int .i64 t2, .int .i64 t3, .int .i64 t4, .int .i64 t5]) ∧ Bx W w1.heap.size 32 #[.slice B0 s.ledger.tickets.length kB0, .slice B1 s.ledger.taps.length kB1, .slice B2 s.ledger.verdicts.length kB2, .int .i64 s.denied.version, .slice B3 s.denied.ids.length kB3, .slice B4 s.gates.length kB4, .slice B5 s.views.length kB5]) ⟨by exact extA, by simp, ⟨HCK1.out.ext ((Ext.refl _).alloc _), HB2.out.ext ((Ext.refl _).alloc _), HB3.out.ext ((Ext.refl _).alloc _)⟩, Bx.newAt rfl⟩ ?_
 intro W hS
 obtain ⟨hxw, hgw, ⟨hck, hb2, hb3⟩, hb6⟩ := hS.out
 have HXW := Lib.hid hxw
 have HCK := Lib.hid hck
 have HB2W := Lib.hid hb2
 have HB3W := Lib.hid hb3
 have HB6 := Lib.hid hb6
 have hpW := hck.box.lt
 have hzW := hxw.size
 have hz1 := H1.out.size
 (try simp only [World.size_alloc] at hz1)
 clear hS hxw hck hb2 hb3 hb6 HCK1 HB2 HB3 q1_0 f1_0 l1_0 R1_0 q1_1 f1_1 l1_1 R1_1 q1_2 f1_2 l1_2 R1_2 qp fp KF RB
 have HK0 := HK
 clear HK
 have HK := Lib.hid (fun (w' : World) (h : ∃ m, Ck base w' p ⟨.slice B0 s.ledger.tickets.length kB0, .slice B1 s.ledger.taps.length kB1, .slice B2 s.ledger.verdicts.length kB2, .slice B3 s.denied.ids.length kB3, .slice B4 s.gates.length kB4, .slice B5 s.views.length kB5⟩ s m ∧ Bx w' w.heap.size 124 #[.pointer (some ⟨p, 0, none⟩)] ∧ Bx w' (w.heap.size + 1) 71 #[.int .i64 4, .int .i64 id, .int .i64 of, .int .i64 time, .int .i64 t0, .int .i64 t1, .int .i64 t2, .int .i64 t3, .int .i64 t4, .int .i64 t5]) => (show (w'.cell? ⟨p, 0, none⟩ = some (.slice B0 s.ledger.tickets.length kB0) ∧ w'.cell? ⟨p, 1, none⟩ = some (.slice B1 s.ledger.taps.length kB1) ∧ w'.cell? ⟨p, 2, none⟩ = some (.slice B2 s.ledger.verdicts.length kB2) ∧ w'.cell? ⟨p, 3, none⟩ = some (.int .i64 s.denied.version) ∧ w'.cell? ⟨p, 4, none⟩ = some (.slice B3 s.denied.ids.length kB3) ∧ w'.cell? ⟨p, 5, none⟩ = some (.slice B4 s.gates.length kB4) ∧ w'.cell? ⟨p, 6, none⟩ = some (.slice B5 s.views.length kB5)) ∧ (∀ o, w'.cell? ⟨w.heap.size, o, none⟩ = (#[.pointer (some ⟨p, 0, none⟩)] : Array Value)[o]?) ∧ (∀ o, w'.cell? ⟨w.heap.size + 1, o, none⟩ = (#[.int .i64 4, .int .i64 id, .int .i64 of, .int .i64 time, .int .i64 t0, .int .i64 t1, .int .i64 t2, .int .i64 t3, .int .i64 t4, .int .i64 t5] : Array Value)[o]?) by
  obtain ⟨m, h1, h2, h3⟩ := h
  have hr := h1.box.row.2.1
  exact ⟨⟨hr 0, hr 1, hr 2, hr 3, hr 4, hr 5, hr 6⟩, h2.row.2.1, h3.row.2.1⟩))
 (refine T_begin (fun w' => ∃ m, Ck base w' p ⟨.slice B0 s.ledger.tickets.length kB0, .slice B1 s.ledger.taps.length kB1, .slice B2 s.ledger.verdicts.length kB2, .slice B3 s.denied.ids.length kB3, .slice B4 s.gates.length kB4, .slice B5 s.views.length kB5⟩ s m ∧ Bx w' w.heap.size 124 #[.pointer (some ⟨p, 0, none⟩)] ∧ Bx w' (w.heap.size + 1) 71 #[.int .i64 4, .int .i64 id, .int .i64 of, .int .i64 time, .int .i64 t0, .int .i64 t1, .int .i64 t2, .int .i64 t3, .int .i64 t4, .int .i64 t5]) 15 (by kernel_rfl) (Exists.intro n (And.intro (HCK.out.ext ((Ext.refl _).drew)) (And.intro HB2W.out.drew HB3W.out.drew))) (fun hS => ?_); simp only [List.length_cons, List.length_nil])
 (refine tkA 0 HK hS ?_; refine tkA 1 HK hS ?_; refine tkA 2 HK hS ?_; refine tkA 3 HK hS ?_; refine tkA 4 HK hS ?_; refine tkA 5 HK hS ?_; refine tkA 6 HK hS ?_; refine tkA 7 HK hS ?_)
 clear HK
 refine oA 8 fun K hK => ?_
 go_simp
 refine (KS.out _ (by exact (HCK.out.own.ext ((Ext.refl _).drew)).rd)).mono ?_
 rintro e w2 ⟨⟨t0', t1', t2', ti, tg, tv⟩, vt, rfl, hx, ho, hto⟩
 obtain ⟨C0, kC0, rfl⟩ : ∃ B d, t0' = .slice B R1.ledger.tickets.length d := ho.tk.form
 obtain ⟨C1, kC1, rfl⟩ : ∃ B d, t1' = .slice B R1.ledger.taps.length d := ho.tp.form
 obtain ⟨C2, kC2, rfl⟩ : ∃ B d, t2' = .slice B R1.ledger.verdicts.length d := ho.vd.form
 obtain ⟨C3, kC3, rfl⟩ : ∃ B d, ti = .slice B R1.denied.ids.length d := ho.dn.form
 obtain ⟨C4, kC4, rfl⟩ : ∃ B d, tg = .slice B R1.gates.length d := ho.gt.form
 obtain ⟨C5, kC5, rfl⟩ : ∃ B d, tv = .slice B R1.views.length d := ho.vw.form
 obtain ⟨E6, kE6, rfl⟩ := hto.form
 clear hto
 rw [show sta R1 ⟨.slice C0 R1.ledger.tickets.length kC0, .slice C1 R1.ledger.taps.length kC1, .slice C2 R1.ledger.verdicts.length kC2, .slice C3 R1.denied.ids.length kC3, .slice C4 R1.gates.length kC4, .slice C5 R1.views.length kC5⟩ = #[.slice C0 R1.ledger.tickets.length kC0, .slice C1 R1.ledger.taps.length kC1, .slice C2 R1.ledger.verdicts.length kC2, .int .i64 R1.denied.version, .slice C3 R1.denied.ids.length kC3, .slice C4 R1.gates.length kC4, .slice C5 R1.views.length kC5] from rfl]
 have hx2 := Ext.trans ((Ext.refl W).drew) hx
 have HO := Lib.hid ho
 have HCK2 := Lib.hid (HCK.out.ext hx2)
 have HB22 := Lib.hid (HB2W.out.ext hx2)
 have HB32 := Lib.hid (HB3W.out.ext hx2)
 have HB62 := Lib.hid (HB6.out.ext hx2)
 have HXW2 := Lib.hid (And.intro trivial (HXW.out.trans hx2))
 have hz2 := HXW2.out.2.size
 have hbW : base ≤ W.heap.size := by omega
 (try simp only [lSz] at HO)
 clear hx hx2 ho hS KS
 have q6 := HB62.out.row.2.1
 have f6 := HB62.out.row.2.2
 have l6 := HB62.out.lt
 have qp := HCK2.out.box.row.2.1
 have fp := HCK2.out.box.row.2.2
 have lp := HCK2.out.box.lt
 unfold cka at qp
 simp only at qp
 have hS : ∃ m, Ck base w2 p ⟨.slice B0 s.ledger.tickets.length kB0, .slice B1 s.ledger.taps.length kB1, .slice B2 s.ledger.verdicts.length kB2, .slice B3 s.denied.ids.length kB3, .slice B4 s.gates.length kB4, .slice B5 s.views.length kB5⟩ s m ∧ Bx w2 w.heap.size 124 #[.pointer (some ⟨p, 0, none⟩)] ∧ Bx w2 (w.heap.size + 1) 71 #[.int .i64 4, .int .i64 id, .int .i64 of, .int .i64 time, .int .i64 t0, .int .i64 t1, .int .i64 t2, .int .i64 t3, .int .i64 t4, .int .i64 t5] := ⟨n, HCK2.out, HB22.out, HB32.out⟩
 go_wp2_with fail
 (refine hK.out _ _ (.inr hS) ?_; clear hK; (try simp only [Act.put, lSet]))
 (refine tkP 9 ?_; refine tkP 10 ?_; refine tkP 11 ?_; refine tkP 12 ?_)
 clear hS
 have hf3 : Fr (fun q => q = w1.heap.size) w2 (((((((w2.setCell ⟨w1.heap.size, 0, none⟩ (.slice C0 R1.ledger.tickets.length kC0)).setCell ⟨w1.heap.size, 1, none⟩ (.slice C1 R1.ledger.taps.length kC1)).setCell ⟨w1.heap.size, 2, none⟩ (.slice C2 R1.ledger.verdicts.length kC2)).setCell ⟨w1.heap.size, 3, none⟩ (.int .i64 R1.denied.version)).setCell ⟨w1.heap.size, 4, none⟩ (.slice C3 R1.denied.ids.length kC3)).setCell ⟨w1.heap.size, 5, none⟩ (.slice C4 R1.gates.length kC4)).setCell ⟨w1.heap.size, 6, none⟩ (.slice C5 R1.views.length kC5)) := Fr.setC rfl (Fr.setC rfl (Fr.setC rfl (Fr.setC rfl (Fr.setC rfl (Fr.setC rfl (Fr.setC rfl (Fr.refl _ _)))))))
 have hnb : ∀ q, (fun q => q = w1.heap.size) q → ∃ e2 cs, Bx w2 q e2 cs ∧ e2 ∉ spT := by rintro q rfl; exact ⟨_, _, HB62.out, by decide⟩
 have HCK3 := Lib.hid (show Ck base (((((((w2.setCell ⟨w1.heap.size, 0, none⟩ (.slice C0 R1.ledger.tickets.length kC0)).setCell ⟨w1.heap.size, 1, none⟩ (.slice C1 R1.ledger.taps.length kC1)).setCell ⟨w1.heap.size, 2, none⟩ (.slice C2 R1.ledger.verdicts.length kC2)).setCell ⟨w1.heap.size, 3, none⟩ (.int .i64 R1.denied.version)).setCell ⟨w1.heap.size, 4, none⟩ (.slice C3 R1.denied.ids.length kC3)).setCell ⟨w1.heap.size, 5, none⟩ (.slice C4 R1.gates.length kC4)).setCell ⟨w1.heap.size, 6, none⟩ (.slice C5 R1.views.length kC5)) p ⟨.slice B0 s.ledger.tickets.length kB0, .slice B1 s.ledger.taps.length kB1, .slice B2 s.ledger.verdicts.length kB2, .slice B3 s.denied.ids.length kB3, .slice B4 s.gates.length kB4, .slice B5 s.views.length kB5⟩ s n from ⟨HCK2.out.box.fr hf3 (by intro h; have h2 : p = w1.heap.size := h; omega), HCK2.out.ge, HCK2.out.own.keep hf3 hnb⟩)
 have HB23 := Lib.hid (HB22.out.fr hf3 (by intro h; have h2 : w.heap.size = w1.heap.size := h; omega))
 have HB33 := Lib.hid (HB32.out.fr hf3 (by intro h; have h2 : w.heap.size + 1 = w1.heap.size := h; omega))
 have HB63 := Lib.hid (show Bx (((((((w2.setCell ⟨w1.heap.size, 0, none⟩ (.slice C0 R1.ledger.tickets.length kC0)).setCell ⟨w1.heap.size, 1, none⟩ (.slice C1 R1.ledger.taps.length kC1)).setCell ⟨w1.heap.size, 2, none⟩ (.slice C2 R1.ledger.verdicts.length kC2)).setCell ⟨w1.heap.size, 3, none⟩ (.int .i64 R1.denied.version)).setCell ⟨w1.heap.size, 4, none⟩ (.slice C3 R1.denied.ids.length kC3)).setCell ⟨w1.heap.size, 5, none⟩ (.slice C4 R1.gates.length kC4)).setCell ⟨w1.heap.size, 6, none⟩ (.slice C5 R1.views.length kC5)) w1.heap.size 32 #[.slice C0 R1.ledger.tickets.length kC0, .slice C1 R1.ledger.taps.length kC1, .slice C2 R1.ledger.verdicts.length kC2, .int .i64 R1.denied.version, .slice C3 R1.denied.ids.length kC3, .slice C4 R1.gates.length kC4, .slice C5 R1.views.length kC5] from bxC (((((((HB62.out.set (i := 0)).set (i := 1)).set (i := 2)).set (i := 3)).set (i := 4)).set (i := 5)).set (i := 6)) (by simp only [lSet]))
 have HO3 := Lib.hid (HO.out.keep hf3 hnb)
 have HF3 := Lib.hid (show Fr (fun q => q = p) w (((((((w2.setCell ⟨w1.heap.size, 0, none⟩ (.slice C0 R1.ledger.tickets.length kC0)).setCell ⟨w1.heap.size, 1, none⟩ (.slice C1 R1.ledger.taps.length kC1)).setCell ⟨w1.heap.size, 2, none⟩ (.slice C2 R1.ledger.verdicts.length kC2)).setCell ⟨w1.heap.size, 3, none⟩ (.int .i64 R1.denied.version)).setCell ⟨w1.heap.size, 4, none⟩ (.slice C3 R1.denied.ids.length kC3)).setCell ⟨w1.heap.size, 5, none⟩ (.slice C4 R1.gates.length kC4)).setCell ⟨w1.heap.size, 6, none⟩ (.slice C5 R1.views.length kC5)) from Fr.ofExt (ext7 (by omega) HXW2.out.2))
 clear hnb hf3
 refine oA 13 fun K hK => ?_
 go_simp
 refine hK.out _ _ (.inr (by exact ⟨n, HCK3.out, HB23.out, HB33.out⟩)) ?_
 clear hK
 (try simp only [Act.put, lSet])
 refine oA 14 fun K hK => ?_
 go_simp
 refine hK.out _ _ (.inr (by exact ⟨n, HCK3.out, HB23.out, HB33.out⟩)) ?_
 clear hK
 (try simp only [Act.put, lSet])
 clear q6 f6 l6 qp fp lp
 refine oA 15 fun K hK => ?_
 go_simp
 refine hK.out _ _ (.inl (by kernel_rfl)) ?_
 clear hK
 (try simp only [Act.put, lSet])
 refine T_done (by kernel_rfl) ?_ _
 have HVF := Lib.hid HF3.out
 have HVK := Lib.hid HCK3.out
 have HVO := Lib.hid HO3.out
 have q6 := HB63.out.row.2.1
 have f6 := HB63.out.row.2.2
 have l6 := HB63.out.lt
 have q2 := HB23.out.row.2.1
 have f2 := HB23.out.row.2.2
 have l2 := HB23.out.lt
 have qp := HCK3.out.box.row.2.1
 have fp := HCK3.out.box.row.2.2
 have lp := HCK3.out.box.lt
 unfold cka at qp
 simp only at qp
 clear HCK HCK2 HB2W HB3W HB6 HB22 HB32 HB62 HO HXW HXW2
 obtain ⟨V, hV⟩ : ∃ V, V = (((((((w2.setCell ⟨w1.heap.size, 0, none⟩ (.slice C0 R1.ledger.tickets.length kC0)).setCell ⟨w1.heap.size, 1, none⟩ (.slice C1 R1.ledger.taps.length kC1)).setCell ⟨w1.heap.size, 2, none⟩ (.slice C2 R1.ledger.verdicts.length kC2)).setCell ⟨w1.heap.size, 3, none⟩ (.int .i64 R1.denied.version)).setCell ⟨w1.heap.size, 4, none⟩ (.slice C3 R1.denied.ids.length kC3)).setCell ⟨w1.heap.size, 5, none⟩ (.slice C4 R1.gates.length kC4)).setCell ⟨w1.heap.size, 6, none⟩ (.slice C5 R1.views.length kC5)) := ⟨_, rfl⟩
 rw [← hV] at HVF HVK HVO q6 f6 l6 q2 f2 l2 qp fp lp
 rw [← hV]
 clear hV HCK3 HB23 HB33 HB63 HO3 HF3
 by_cases h0 : R3 = 0
 ·have h0b : (R3 == 0) = true := by simpa using h0
  have HQ := Lib.hid (show D = (R1, (R2.length : Int), R3) by rw [HD.out, if_pos h0])
  clear h0
  go_wp2_with fail
  go_ret
  rw [HQ.out]
  have hc7 := HVK.out.num (R2.length : Int)
  have ho7 := HVO.out.keep (own := fun q => q = p) (Fr.setC (a := ⟨p, 7, none⟩) (u := .int .i64 R2.length) rfl (Fr.refl _ _)) (by rintro q rfl; exact ⟨_, _, HVK.out.box, by decide⟩)
  have hput := hc7.put ho7 (by omega)
  have hfin : Fr (fun q => q = p) w (putCk (V.setCell ⟨p, 7, none⟩ (.int .i64 R2.length)) p R1 ⟨.slice C0 R1.ledger.tickets.length kC0, .slice C1 R1.ledger.taps.length kC1, .slice C2 R1.ledger.verdicts.length kC2, .slice C3 R1.denied.ids.length kC3, .slice C4 R1.gates.length kC4, .slice C5 R1.views.length kC5⟩) := putCk_fr rfl (Fr.setC rfl HVF.out)
  dsimp only [putCk] at hput hfin
  exact ⟨rfl, hfin, _, hput⟩
 ·have h0b : (R3 == 0) = false := by simpa using h0
  have HQ := Lib.hid (show D = (s, (R2.length : Int), R3) by rw [HD.out, if_neg h0])
  clear h0
  go_wp2_with fail
  go_ret
  rw [HQ.out]
  exact ⟨rfl, Fr.setC rfl HVF.out, _, HVK.out.num (R2.length : Int)⟩

theorem clerk_do_3 (s : St) (y : Sv) (n : Int) (a : Ac) (p base : Nat) (w : World) (hk : Ck base w p y s n) (rs : RightS s) (hf : formA a = 0) (hkd : a.kind = 3) :
  Calls Tryz.prog 91 #[.pointer (some ⟨p, 0, none⟩), .agg (acc a)] w fun e w' => e = .returned (.int .i64 (orSt (actS s n a) s).2.2) ∧ Fr (fun q => q = p) w w' ∧ ∃ y', Ck base w' p y' (orSt (actS s n a) s).1 (orSt (actS s n a) s).2.1 := by
 have KF := Lib.hid (fun (w' : World) => hf ▸ desk_form a w')
 obtain ⟨D, hD⟩ : ∃ D, D = orSt (actS s n a) s := ⟨_, rfl⟩
 rw [← hD]
 obtain ⟨k, id, of, time, ⟨t0, t1, t2, t3, t4, t5⟩⟩ := a
 simp only at hkd
 obtain ⟨s0, s1, s2, si, sg, sv⟩ := y
 obtain ⟨B0, kB0, rfl⟩ : ∃ B d, s0 = .slice B s.ledger.tickets.length d := hk.own.tk.form
 obtain ⟨B1, kB1, rfl⟩ : ∃ B d, s1 = .slice B s.ledger.taps.length d := hk.own.tp.form
 obtain ⟨B2, kB2, rfl⟩ : ∃ B d, s2 = .slice B s.ledger.verdicts.length d := hk.own.vd.form
 obtain ⟨B3, kB3, rfl⟩ : ∃ B d, si = .slice B s.denied.ids.length d := hk.own.dn.form
 obtain ⟨B4, kB4, rfl⟩ : ∃ B d, sg = .slice B s.gates.length d := hk.own.gt.form
 obtain ⟨B5, kB5, rfl⟩ : ∃ B d, sv = .slice B s.views.length d := hk.own.vw.form
 have HK := Lib.hid hk
 have RB := Lib.hid hk.box.row
 unfold cka at RB
 simp only at RB
 have hpw := hk.box.lt
 have hge := hk.ge
 have HRS := Lib.hid rs
 obtain ⟨qp, fp, lp⟩ : (∀ o, w.cell? ⟨p, o, none⟩ = _) ∧ (∀ o, w.frozen? ⟨p, o, none⟩ = false) ∧ p < w.heap.size := ⟨RB.out.2.1, RB.out.2.2, RB.out.1⟩
 unfold acc at KF ⊢
 simp only at KF ⊢
 subst hkd
 have hD2 : D = ((if dnyE s id = 0 then ⟨s.ledger, (denyD s.denied id).1, s.gates, s.views⟩ else s), n, dnyE s id) := by
  rw [hD]
  unfold orSt actS dnyE
  simp only [Int.reduceEq, if_false, if_true]
  cases led s with
  | false => simp
  | true => by_cases h : (denyD s.denied id).2 = 0 <;> simp [h]
 have KS := Lib.hid (fun (w' : World) (hge2 : base ≤ w'.heap.size) (hck : Ck base w' p ⟨.slice B0 s.ledger.tickets.length kB0, .slice B1 s.ledger.taps.length kB1, .slice B2 s.ledger.verdicts.length kB2, .slice B3 s.denied.ids.length kB3, .slice B4 s.gates.length kB4, .slice B5 s.views.length kB5⟩ s n) (h2 : Row w' w.heap.size #[.pointer (some ⟨p, 0, none⟩)]) (h3 : Row w' (w.heap.size + 1) #[.int .i64 3, .int .i64 id, .int .i64 of, .int .i64 time, .int .i64 t0, .int .i64 t1, .int .i64 t2, .int .i64 t3, .int .i64 t4, .int .i64 t5]) => clerk_deny s ⟨.slice B0 s.ledger.tickets.length kB0, .slice B1 s.ledger.taps.length kB1, .slice B2 s.ledger.verdicts.length kB2, .slice B3 s.denied.ids.length kB3, .slice B4 s.gates.length kB4, .slice B5 s.views.length kB5⟩ n id p base w' hck HRS.out)
 obtain ⟨RS, hRS⟩ : ∃ RS, RS = (if dnyE s id = 0 then ⟨s.ledger, (denyD s.denied id).1, s.gates, s.views⟩ else s) := ⟨_, rfl⟩
 rw [← hRS] at KS hD2
 clear hRS
 generalize dnyE s id = de at *
 have HD := Lib.hid hD2
 clear hD2
 clear hk rs hf hD
 go_enter Tryz.func91, Tryz.ntmps91
 go_wp2_with fail
 (refine gA (KF.out _) fun w1 H1 hz1 => ?_; (try simp only [lSz] at hz1); refine rowU w1 p fun q1_0 f1_0 l1_0 R1_0 => ?_; refine rowU w1 w.heap.size fun q1_1 f1_1 l1_1 R1_1 => ?_; refine rowU w1 (w.heap.size + 1) fun q1_2 f1_2 l1_2 R1_2 => ?_)
 have HB2 := Lib.hid (show Bx w1 w.heap.size 124 #[.pointer (some ⟨p, 0, none⟩)] from Bx.ext (Bx.alloc (Bx.newAt rfl) _) H1.out)
 have HB3 := Lib.hid (show Bx w1 (w.heap.size + 1) 71 #[.int .i64 3, .int .i64 id, .int .i64 of, .int .i64 time, .int .i64 t0, .int .i64 t1, .int .i64 t2, .int .i64 t3, .int .i64 t4, .int .i64 t5] from Bx.ext (Bx.newAt (by simp)) H1.out)
 have HCK1 := Lib.hid (HK.out.ext (extA : Ext w w1))
 have hz1 := H1.out.size
 (try simp only [World.size_alloc] at hz1)
 go_wp2_with fail
 refine (KS.out _ (by simp; omega) (by exact HCK1.out.ext ((Ext.refl _).alloc _)) (by exact (HB2.out.alloc _).row) (by exact (HB3.out.alloc _).row)).mono ?_
 rintro e w2 ⟨rfl, hf, y2, hk2⟩
 have HF2 := Lib.hid hf
 have HK2 := Lib.hid hk2
 clear hf hk2
 go_wp2_with fail
 go_ret
 rw [HD.out]
 exact ⟨rfl, (Fr.ofExt (show Ext w _ from Ext.trans (extA : Ext w w1) ((Ext.refl _).alloc _))).trans HF2.out, y2, HK2.out⟩
theorem clerk_do_5 (s : St) (y : Sv) (n : Int) (a : Ac) (p base : Nat) (w : World) (hk : Ck base w p y s n) (rs : RightS s) (hf : formA a = 0) (hkd : a.kind = 5) :
  Calls Tryz.prog 91 #[.pointer (some ⟨p, 0, none⟩), .agg (acc a)] w fun e w' => e = .returned (.int .i64 (orSt (actS s n a) s).2.2) ∧ Fr (fun q => q = p) w w' ∧ ∃ y', Ck base w' p y' (orSt (actS s n a) s).1 (orSt (actS s n a) s).2.1 := by
 have KF := Lib.hid (fun (w' : World) => hf ▸ desk_form a w')
 obtain ⟨D, hD⟩ : ∃ D, D = orSt (actS s n a) s := ⟨_, rfl⟩
 rw [← hD]
 obtain ⟨k, id, of, time, ⟨t0, t1, t2, t3, t4, t5⟩⟩ := a
 simp only at hkd
 obtain ⟨s0, s1, s2, si, sg, sv⟩ := y
 obtain ⟨B0, kB0, rfl⟩ : ∃ B d, s0 = .slice B s.ledger.tickets.length d := hk.own.tk.form
 obtain ⟨B1, kB1, rfl⟩ : ∃ B d, s1 = .slice B s.ledger.taps.length d := hk.own.tp.form
 obtain ⟨B2, kB2, rfl⟩ : ∃ B d, s2 = .slice B s.ledger.verdicts.length d := hk.own.vd.form
 obtain ⟨B3, kB3, rfl⟩ : ∃ B d, si = .slice B s.denied.ids.length d := hk.own.dn.form
 obtain ⟨B4, kB4, rfl⟩ : ∃ B d, sg = .slice B s.gates.length d := hk.own.gt.form
 obtain ⟨B5, kB5, rfl⟩ : ∃ B d, sv = .slice B s.views.length d := hk.own.vw.form
 have HK := Lib.hid hk
 have RB := Lib.hid hk.box.row
 unfold cka at RB
 simp only at RB
 have hpw := hk.box.lt
 have hge := hk.ge
 have HRS := Lib.hid rs
 obtain ⟨qp, fp, lp⟩ : (∀ o, w.cell? ⟨p, o, none⟩ = _) ∧ (∀ o, w.frozen? ⟨p, o, none⟩ = false) ∧ p < w.heap.size := ⟨RB.out.2.1, RB.out.2.2, RB.out.1⟩
 unfold acc at KF ⊢
 simp only at KF ⊢
 subst hkd
 have hD2 : D = ((if (setV s.views of true).2 = 0 then ⟨s.ledger, s.denied, s.gates, (setV s.views of true).1⟩ else s), n, (setV s.views of true).2) := by
  rw [hD]
  unfold orSt actS
  simp only [Int.reduceEq, if_false, if_true]
  by_cases h : (setV s.views of true).2 = 0 <;> simp [h]
 have KS := Lib.hid (fun (w' : World) (hge2 : base ≤ w'.heap.size) (hck : Ck base w' p ⟨.slice B0 s.ledger.tickets.length kB0, .slice B1 s.ledger.taps.length kB1, .slice B2 s.ledger.verdicts.length kB2, .slice B3 s.denied.ids.length kB3, .slice B4 s.gates.length kB4, .slice B5 s.views.length kB5⟩ s n) (h2 : Row w' w.heap.size #[.pointer (some ⟨p, 0, none⟩)]) (h3 : Row w' (w.heap.size + 1) #[.int .i64 5, .int .i64 id, .int .i64 of, .int .i64 time, .int .i64 t0, .int .i64 t1, .int .i64 t2, .int .i64 t3, .int .i64 t4, .int .i64 t5]) => clerk_set 149 #[.pointer (some ⟨w.heap.size, 0, none⟩), .pointer (some ⟨w.heap.size + 1, 0, none⟩)] (fun args w => by simp [go_sem]) s ⟨.slice B0 s.ledger.tickets.length kB0, .slice B1 s.ledger.taps.length kB1, .slice B2 s.ledger.verdicts.length kB2, .slice B3 s.denied.ids.length kB3, .slice B4 s.gates.length kB4, .slice B5 s.views.length kB5⟩ n n (setV s.views of true).2 (setV s.views of true).1 p base w' hge hck.box.lt hge2 (fun W hW => do_one ⟨5, id, of, time, ⟨t0, t1, t2, t3, t4, t5⟩⟩ s ⟨.slice B0 s.ledger.tickets.length kB0, .slice B1 s.ledger.taps.length kB1, .slice B2 s.ledger.verdicts.length kB2, .slice B3 s.denied.ids.length kB3, .slice B4 s.gates.length kB4, .slice B5 s.views.length kB5⟩ n p w.heap.size (w.heap.size + 1) base W (hck.ext hW) HRS.out (Row.ext hW h2) (Row.ext hW h3)))
 obtain ⟨RS, hRS⟩ : ∃ RS, RS = (if (setV s.views of true).2 = 0 then ⟨s.ledger, s.denied, s.gates, (setV s.views of true).1⟩ else s) := ⟨_, rfl⟩
 rw [← hRS] at KS hD2
 clear hRS
 generalize (setV s.views of true).2 = de at *
 have HD := Lib.hid hD2
 clear hD2
 clear hk rs hf hD
 go_enter Tryz.func91, Tryz.ntmps91
 go_wp2_with fail
 (refine gA (KF.out _) fun w1 H1 hz1 => ?_; (try simp only [lSz] at hz1); refine rowU w1 p fun q1_0 f1_0 l1_0 R1_0 => ?_; refine rowU w1 w.heap.size fun q1_1 f1_1 l1_1 R1_1 => ?_; refine rowU w1 (w.heap.size + 1) fun q1_2 f1_2 l1_2 R1_2 => ?_)
 have HB2 := Lib.hid (show Bx w1 w.heap.size 124 #[.pointer (some ⟨p, 0, none⟩)] from Bx.ext (Bx.alloc (Bx.newAt rfl) _) H1.out)
 have HB3 := Lib.hid (show Bx w1 (w.heap.size + 1) 71 #[.int .i64 5, .int .i64 id, .int .i64 of, .int .i64 time, .int .i64 t0, .int .i64 t1, .int .i64 t2, .int .i64 t3, .int .i64 t4, .int .i64 t5] from Bx.ext (Bx.newAt (by simp)) H1.out)
 have HCK1 := Lib.hid (HK.out.ext (extA : Ext w w1))
 have hz1 := H1.out.size
 (try simp only [World.size_alloc] at hz1)
 go_wp2_with fail
 refine (KS.out _ (by simp; omega) (by exact HCK1.out.ext ((Ext.refl _).alloc _)) (by exact (HB2.out.alloc _).row) (by exact (HB3.out.alloc _).row)).mono ?_
 rintro e w2 ⟨rfl, hf, y2, hk2⟩
 have HF2 := Lib.hid hf
 have HK2 := Lib.hid hk2
 clear hf hk2
 go_wp2_with fail
 go_ret
 rw [HD.out]
 exact ⟨rfl, (Fr.ofExt (show Ext w _ from Ext.trans (extA : Ext w w1) ((Ext.refl _).alloc _))).trans HF2.out, y2, HK2.out⟩
theorem clerk_do_6 (s : St) (y : Sv) (n : Int) (a : Ac) (p base : Nat) (w : World) (hk : Ck base w p y s n) (rs : RightS s) (hf : formA a = 0) (hkd : a.kind = 6) :
  Calls Tryz.prog 91 #[.pointer (some ⟨p, 0, none⟩), .agg (acc a)] w fun e w' => e = .returned (.int .i64 (orSt (actS s n a) s).2.2) ∧ Fr (fun q => q = p) w w' ∧ ∃ y', Ck base w' p y' (orSt (actS s n a) s).1 (orSt (actS s n a) s).2.1 := by
 have KF := Lib.hid (fun (w' : World) => hf ▸ desk_form a w')
 obtain ⟨D, hD⟩ : ∃ D, D = orSt (actS s n a) s := ⟨_, rfl⟩
 rw [← hD]
 obtain ⟨k, id, of, time, ⟨t0, t1, t2, t3, t4, t5⟩⟩ := a
 simp only at hkd
 obtain ⟨s0, s1, s2, si, sg, sv⟩ := y
 obtain ⟨B0, kB0, rfl⟩ : ∃ B d, s0 = .slice B s.ledger.tickets.length d := hk.own.tk.form
 obtain ⟨B1, kB1, rfl⟩ : ∃ B d, s1 = .slice B s.ledger.taps.length d := hk.own.tp.form
 obtain ⟨B2, kB2, rfl⟩ : ∃ B d, s2 = .slice B s.ledger.verdicts.length d := hk.own.vd.form
 obtain ⟨B3, kB3, rfl⟩ : ∃ B d, si = .slice B s.denied.ids.length d := hk.own.dn.form
 obtain ⟨B4, kB4, rfl⟩ : ∃ B d, sg = .slice B s.gates.length d := hk.own.gt.form
 obtain ⟨B5, kB5, rfl⟩ : ∃ B d, sv = .slice B s.views.length d := hk.own.vw.form
 have HK := Lib.hid hk
 have RB := Lib.hid hk.box.row
 unfold cka at RB
 simp only at RB
 have hpw := hk.box.lt
 have hge := hk.ge
 have HRS := Lib.hid rs
 obtain ⟨qp, fp, lp⟩ : (∀ o, w.cell? ⟨p, o, none⟩ = _) ∧ (∀ o, w.frozen? ⟨p, o, none⟩ = false) ∧ p < w.heap.size := ⟨RB.out.2.1, RB.out.2.2, RB.out.1⟩
 unfold acc at KF ⊢
 simp only at KF ⊢
 subst hkd
 have hD2 : D = ((if (setV s.views of false).2 = 0 then ⟨s.ledger, s.denied, s.gates, (setV s.views of false).1⟩ else s), n, (setV s.views of false).2) := by
  rw [hD]
  unfold orSt actS
  simp only [Int.reduceEq, if_false, if_true]
  by_cases h : (setV s.views of false).2 = 0 <;> simp [h]
 have KS := Lib.hid (fun (w' : World) (hge2 : base ≤ w'.heap.size) (hck : Ck base w' p ⟨.slice B0 s.ledger.tickets.length kB0, .slice B1 s.ledger.taps.length kB1, .slice B2 s.ledger.verdicts.length kB2, .slice B3 s.denied.ids.length kB3, .slice B4 s.gates.length kB4, .slice B5 s.views.length kB5⟩ s n) (h2 : Row w' w.heap.size #[.pointer (some ⟨p, 0, none⟩)]) (h3 : Row w' (w.heap.size + 1) #[.int .i64 6, .int .i64 id, .int .i64 of, .int .i64 time, .int .i64 t0, .int .i64 t1, .int .i64 t2, .int .i64 t3, .int .i64 t4, .int .i64 t5]) => clerk_set 149 #[.pointer (some ⟨w.heap.size, 0, none⟩), .pointer (some ⟨w.heap.size + 1, 0, none⟩)] (fun args w => by simp [go_sem]) s ⟨.slice B0 s.ledger.tickets.length kB0, .slice B1 s.ledger.taps.length kB1, .slice B2 s.ledger.verdicts.length kB2, .slice B3 s.denied.ids.length kB3, .slice B4 s.gates.length kB4, .slice B5 s.views.length kB5⟩ n n (setV s.views of false).2 (setV s.views of false).1 p base w' hge hck.box.lt hge2 (fun W hW => do_one ⟨6, id, of, time, ⟨t0, t1, t2, t3, t4, t5⟩⟩ s ⟨.slice B0 s.ledger.tickets.length kB0, .slice B1 s.ledger.taps.length kB1, .slice B2 s.ledger.verdicts.length kB2, .slice B3 s.denied.ids.length kB3, .slice B4 s.gates.length kB4, .slice B5 s.views.length kB5⟩ n p w.heap.size (w.heap.size + 1) base W (hck.ext hW) HRS.out (Row.ext hW h2) (Row.ext hW h3)))
 obtain ⟨RS, hRS⟩ : ∃ RS, RS = (if (setV s.views of false).2 = 0 then ⟨s.ledger, s.denied, s.gates, (setV s.views of false).1⟩ else s) := ⟨_, rfl⟩
 rw [← hRS] at KS hD2
 clear hRS
 generalize (setV s.views of false).2 = de at *
 have HD := Lib.hid hD2
 clear hD2
 clear hk rs hf hD
 go_enter Tryz.func91, Tryz.ntmps91
 go_wp2_with fail
 (refine gA (KF.out _) fun w1 H1 hz1 => ?_; (try simp only [lSz] at hz1); refine rowU w1 p fun q1_0 f1_0 l1_0 R1_0 => ?_; refine rowU w1 w.heap.size fun q1_1 f1_1 l1_1 R1_1 => ?_; refine rowU w1 (w.heap.size + 1) fun q1_2 f1_2 l1_2 R1_2 => ?_)
 have HB2 := Lib.hid (show Bx w1 w.heap.size 124 #[.pointer (some ⟨p, 0, none⟩)] from Bx.ext (Bx.alloc (Bx.newAt rfl) _) H1.out)
 have HB3 := Lib.hid (show Bx w1 (w.heap.size + 1) 71 #[.int .i64 6, .int .i64 id, .int .i64 of, .int .i64 time, .int .i64 t0, .int .i64 t1, .int .i64 t2, .int .i64 t3, .int .i64 t4, .int .i64 t5] from Bx.ext (Bx.newAt (by simp)) H1.out)
 have HCK1 := Lib.hid (HK.out.ext (extA : Ext w w1))
 have hz1 := H1.out.size
 (try simp only [World.size_alloc] at hz1)
 go_wp2_with fail
 refine (KS.out _ (by simp; omega) (by exact HCK1.out.ext ((Ext.refl _).alloc _)) (by exact (HB2.out.alloc _).row) (by exact (HB3.out.alloc _).row)).mono ?_
 rintro e w2 ⟨rfl, hf, y2, hk2⟩
 have HF2 := Lib.hid hf
 have HK2 := Lib.hid hk2
 clear hf hk2
 go_wp2_with fail
 go_ret
 rw [HD.out]
 exact ⟨rfl, (Fr.ofExt (show Ext w _ from Ext.trans (extA : Ext w w1) ((Ext.refl _).alloc _))).trans HF2.out, y2, HK2.out⟩
theorem clerk_do_7 (s : St) (y : Sv) (n : Int) (a : Ac) (p base : Nat) (w : World) (hk : Ck base w p y s n) (rs : RightS s) (hf : formA a = 0) (hkd : a.kind = 7) :
  Calls Tryz.prog 91 #[.pointer (some ⟨p, 0, none⟩), .agg (acc a)] w fun e w' => e = .returned (.int .i64 (orSt (actS s n a) s).2.2) ∧ Fr (fun q => q = p) w w' ∧ ∃ y', Ck base w' p y' (orSt (actS s n a) s).1 (orSt (actS s n a) s).2.1 := by
 have KF := Lib.hid (fun (w' : World) => hf ▸ desk_form a w')
 obtain ⟨D, hD⟩ : ∃ D, D = orSt (actS s n a) s := ⟨_, rfl⟩
 rw [← hD]
 obtain ⟨k, id, of, time, ⟨t0, t1, t2, t3, t4, t5⟩⟩ := a
 simp only at hkd
 obtain ⟨s0, s1, s2, si, sg, sv⟩ := y
 obtain ⟨B0, kB0, rfl⟩ : ∃ B d, s0 = .slice B s.ledger.tickets.length d := hk.own.tk.form
 obtain ⟨B1, kB1, rfl⟩ : ∃ B d, s1 = .slice B s.ledger.taps.length d := hk.own.tp.form
 obtain ⟨B2, kB2, rfl⟩ : ∃ B d, s2 = .slice B s.ledger.verdicts.length d := hk.own.vd.form
 obtain ⟨B3, kB3, rfl⟩ : ∃ B d, si = .slice B s.denied.ids.length d := hk.own.dn.form
 obtain ⟨B4, kB4, rfl⟩ : ∃ B d, sg = .slice B s.gates.length d := hk.own.gt.form
 obtain ⟨B5, kB5, rfl⟩ : ∃ B d, sv = .slice B s.views.length d := hk.own.vw.form
 have HK := Lib.hid hk
 have RB := Lib.hid hk.box.row
 unfold cka at RB
 simp only at RB
 have hpw := hk.box.lt
 have hge := hk.ge
 have HRS := Lib.hid rs
 obtain ⟨qp, fp, lp⟩ : (∀ o, w.cell? ⟨p, o, none⟩ = _) ∧ (∀ o, w.frozen? ⟨p, o, none⟩ = false) ∧ p < w.heap.size := ⟨RB.out.2.1, RB.out.2.2, RB.out.1⟩
 unfold acc at KF ⊢
 simp only at KF ⊢
 subst hkd
 have hD2 : D = ((if (winV s.views of).2.2 = 0 then ⟨s.ledger, s.denied, s.gates, (winV s.views of).1⟩ else s), (if (winV s.views of).2.1 = true then 1 else n), (winV s.views of).2.2) := by
  rw [hD]
  unfold orSt actS
  simp only [Int.reduceEq, if_false, if_true]
  by_cases h : (winV s.views of).2.2 = 0 <;> simp [h]
 have KS := Lib.hid (fun (w' : World) (hge2 : base ≤ w'.heap.size) (hck : Ck base w' p ⟨.slice B0 s.ledger.tickets.length kB0, .slice B1 s.ledger.taps.length kB1, .slice B2 s.ledger.verdicts.length kB2, .slice B3 s.denied.ids.length kB3, .slice B4 s.gates.length kB4, .slice B5 s.views.length kB5⟩ s n) (h2 : Row w' w.heap.size #[.pointer (some ⟨p, 0, none⟩)]) (h3 : Row w' (w.heap.size + 1) #[.int .i64 7, .int .i64 id, .int .i64 of, .int .i64 time, .int .i64 t0, .int .i64 t1, .int .i64 t2, .int .i64 t3, .int .i64 t4, .int .i64 t5]) => clerk_set 150 #[.pointer (some ⟨w.heap.size, 0, none⟩), .pointer (some ⟨w.heap.size + 1, 0, none⟩)] (fun args w => by simp [go_sem]) s ⟨.slice B0 s.ledger.tickets.length kB0, .slice B1 s.ledger.taps.length kB1, .slice B2 s.ledger.verdicts.length kB2, .slice B3 s.denied.ids.length kB3, .slice B4 s.gates.length kB4, .slice B5 s.views.length kB5⟩ n (if (winV s.views of).2.1 = true then 1 else n) (winV s.views of).2.2 (winV s.views of).1 p base w' hge hck.box.lt hge2 (fun W hW => do_two ⟨7, id, of, time, ⟨t0, t1, t2, t3, t4, t5⟩⟩ s ⟨.slice B0 s.ledger.tickets.length kB0, .slice B1 s.ledger.taps.length kB1, .slice B2 s.ledger.verdicts.length kB2, .slice B3 s.denied.ids.length kB3, .slice B4 s.gates.length kB4, .slice B5 s.views.length kB5⟩ n p w.heap.size (w.heap.size + 1) base W (hck.ext hW) HRS.out (Row.ext hW h2) (Row.ext hW h3)))
 obtain ⟨RS, hRS⟩ : ∃ RS, RS = (if (winV s.views of).2.2 = 0 then ⟨s.ledger, s.denied, s.gates, (winV s.views of).1⟩ else s) := ⟨_, rfl⟩
 rw [← hRS] at KS hD2
 clear hRS
 generalize (if (winV s.views of).2.1 = true then 1 else n) = n' at *
 generalize (winV s.views of).2.2 = de at *
 have HD := Lib.hid hD2
 clear hD2
 clear hk rs hf hD
 go_enter Tryz.func91, Tryz.ntmps91
 go_wp2_with fail
 (refine gA (KF.out _) fun w1 H1 hz1 => ?_; (try simp only [lSz] at hz1); refine rowU w1 p fun q1_0 f1_0 l1_0 R1_0 => ?_; refine rowU w1 w.heap.size fun q1_1 f1_1 l1_1 R1_1 => ?_; refine rowU w1 (w.heap.size + 1) fun q1_2 f1_2 l1_2 R1_2 => ?_)
 have HB2 := Lib.hid (show Bx w1 w.heap.size 124 #[.pointer (some ⟨p, 0, none⟩)] from Bx.ext (Bx.alloc (Bx.newAt rfl) _) H1.out)
 have HB3 := Lib.hid (show Bx w1 (w.heap.size + 1) 71 #[.int .i64 7, .int .i64 id, .int .i64 of, .int .i64 time, .int .i64 t0, .int .i64 t1, .int .i64 t2, .int .i64 t3, .int .i64 t4, .int .i64 t5] from Bx.ext (Bx.newAt (by simp)) H1.out)
 have HCK1 := Lib.hid (HK.out.ext (extA : Ext w w1))
 have hz1 := H1.out.size
 (try simp only [World.size_alloc] at hz1)
 go_wp2_with fail
 refine (KS.out _ (by simp; omega) (by exact HCK1.out.ext ((Ext.refl _).alloc _)) (by exact (HB2.out.alloc _).row) (by exact (HB3.out.alloc _).row)).mono ?_
 rintro e w2 ⟨rfl, hf, y2, hk2⟩
 have HF2 := Lib.hid hf
 have HK2 := Lib.hid hk2
 clear hf hk2
 go_wp2_with fail
 go_ret
 rw [HD.out]
 exact ⟨rfl, (Fr.ofExt (show Ext w _ from Ext.trans (extA : Ext w w1) ((Ext.refl _).alloc _))).trans HF2.out, y2, HK2.out⟩

theorem clerk_do (s : St) (y : Sv) (n : Int) (a : Ac) (p base : Nat) (w : World) (hk : Ck base w p y s n) (rs : RightS s) :
  Calls Tryz.prog 91 #[.pointer (some ⟨p, 0, none⟩), .agg (acc a)] w fun e w' => e = .returned (.int .i64 (doS s n a).2.2) ∧ Fr (fun q => q = p) w w' ∧ ∃ y', Ck base w' p y' (doS s n a).1 (doS s n a).2.1 := by
 by_cases hf : formA a = 0
 ·have hd : doS s n a = orSt (actS s n a) s := by unfold doS; rw [if_neg (by simpa using hf)]
  rw [hd]
  have hk7 : a.kind = 1 ∨ a.kind = 2 ∨ a.kind = 3 ∨ a.kind = 4 ∨ a.kind = 5 ∨ a.kind = 6 ∨ a.kind = 7 := by
   unfold formA at hf
   by_cases h : a.kind < 1 ∨ 7 < a.kind
   ·rw [if_pos h] at hf; exact absurd hf (by decide)
   ·omega
  rcases hk7 with h | h | h | h | h | h | h
  ·exact clerk_do_1 s y n a p base w hk rs hf h
  ·exact clerk_do_2 s y n a p base w hk rs hf h
  ·exact clerk_do_3 s y n a p base w hk rs hf h
  ·exact clerk_do_4 s y n a p base w hk rs hf h
  ·exact clerk_do_5 s y n a p base w hk rs hf h
  ·exact clerk_do_6 s y n a p base w hk rs hf h
  ·exact clerk_do_7 s y n a p base w hk rs hf h
 ·have hd : doS s n a = (s, n, formA a) := by unfold doS; rw [if_pos hf]
  rw [hd]
  have KF := Lib.hid (fun (w' : World) => desk_form a w')
  have HK := Lib.hid hk
  have hfb : (formA a != 0) = true := by simpa using hf
  generalize formA a = fa at *
  obtain ⟨k, id, of, time, ⟨t0, t1, t2, t3, t4, t5⟩⟩ := a
  unfold acc at KF ⊢
  simp only at KF ⊢
  clear hk rs hf hd
  go_enter Tryz.func91, Tryz.ntmps91
  go_wp2_with fail
  (refine gA (KF.out _) fun w1 H1 hz1 => ?_; (try simp only [lSz] at hz1); refine rowU w1 w.heap.size fun q1_0 f1_0 l1_0 R1_0 => ?_; refine rowU w1 (w.heap.size + 1) fun q1_1 f1_1 l1_1 R1_1 => ?_)
  go_wp2_with fail
  go_ret
  exact ⟨rfl, Fr.ofExt (extA : Ext w _), y, HK.out.ext (extA : Ext w _)⟩

theorem desk_Do (s : St) (x : Sv) (a : Ac) (w : World) (hr : RdS w x s) :
  Calls Tryz.prog 38 #[.agg (sta s x), .agg (acc a)] w fun e w' => ∃ x', e = .returned (.tuple #[.agg (sta (doAll s a).1 x'), .int .i64 (doAll s a).2.1, .int .i64 (doAll s a).2.2]) ∧ Ext w w' ∧ OwnS w.heap.size w' x' (doAll s a).1 := by
 have KC := Lib.hid (fun w' (h : Ext w w') => station_Check s x w' (hr.ext h))
 have KO := Lib.hid (fun w' (h : Ext w w') (hc : ckSt s = 0) => station_Own s x w' (hr.ext h) (rightS_iff.1 hc))
 have KD := Lib.hid (fun (b p : Nat) (y : Sv) (w' : World) (hc : ckSt s = 0) (hk : Ck b w' p y s 0) => clerk_do s y 0 a p b w' hk (rightS_iff.1 hc))
 have hres : doAll s a = if ckSt s ≠ 0 then (st0, 0, ckSt s) else if (doS s 0 a).2.2 ≠ 0 then (st0, (doS s 0 a).2.1, (doS s 0 a).2.2) else ((doS s 0 a).1, (doS s 0 a).2.1, (doS s 0 a).2.2) := rfl
 generalize doAll s a = R at *
 generalize hck : ckSt s = ck at *
 generalize doS s 0 a = D at *
 obtain ⟨D1, D2, D3⟩ := D
 simp only at KD hres
 have HRES := Lib.hid hres
 obtain ⟨A0, c0, e0, -, -⟩ := hr.tk.form
 obtain ⟨A1, c1, e1, -, -⟩ := hr.tp.form
 obtain ⟨A2, c2, e2, -, -⟩ := hr.vd.form
 obtain ⟨A3, c3, e3, -, -⟩ := hr.dn.form
 obtain ⟨A4, c4, e4, -, -⟩ := hr.gt.form
 obtain ⟨A5, c5, e5, -, -⟩ := hr.vw.form
 obtain ⟨s0, s1, s2, si, sg, sv⟩ := x
 simp only at e0 e1 e2 e3 e4 e5
 subst e0 e1 e2 e3 e4 e5
 clear hr hres hck
 obtain ⟨k, id, of, time, ⟨t0, t1, t2, t3, t4, t5⟩⟩ := a
 unfold sta at KC KO ⊢
 unfold acc at KD ⊢
 simp only at KC KO KD ⊢
 go_enter Tryz.func38, Tryz.ntmps38
 go_wp2_with fail
 (refine gA (KC.out _ extA) fun w1 H1 hz1 => ?_; (try simp only [lSz] at hz1); refine rowU w1 w.heap.size fun q1_0 f1_0 l1_0 R1_0 => ?_; refine rowU w1 (w.heap.size + 1) fun q1_1 f1_1 l1_1 R1_1 => ?_; refine rowU w1 (w.heap.size + 1 + 1) fun q1_2 f1_2 l1_2 R1_2 => ?_)
 by_cases h0 : ck = 0
 case neg =>
  have HQ := Lib.hid (show R = (st0, 0, ck) by rw [HRES.out, if_pos h0])
  have h0b : (ck != 0) = true := by simpa using h0
  clear h0
  go_wp2_with fail
  rw [HQ.out]
  exact bodyPost_ret (v := .tuple #[.agg #[.slice none 0 0, .slice none 0 0, .slice none 0 0, .int .i64 0, .slice none 0 0, .slice none 0 0, .slice none 0 0], .int .i64 0, .int .i64 ck]) (by simp [results, Tryz.results38, go_sem, *]) rfl ⟨sv0, rfl, (extA : Ext w _), OwnS.nil⟩
 subst h0
 have HQ := Lib.hid (show R = if D3 ≠ 0 then (st0, D2, D3) else (D1, D2, D3) by rw [HRES.out]; simp)
 clear HRES
 go_wp2_with fail
 refine (KO.out _ extA (by trivial)).mono ?_
 rintro e w2 ⟨⟨u0, u1, u2, ui, ug, uv⟩, rfl, h2, ho⟩
 obtain ⟨B0, d0, e0⟩ := ho.tk.form
 obtain ⟨B1, d1, e1⟩ := ho.tp.form
 obtain ⟨B2, d2, e2⟩ := ho.vd.form
 obtain ⟨B3, d3, e3⟩ := ho.dn.form
 obtain ⟨B4, d4, e4⟩ := ho.gt.form
 obtain ⟨B5, d5, e5⟩ := ho.vw.form
 simp only at e0 e1 e2 e3 e4 e5
 subst e0 e1 e2 e3 e4 e5
 have H2 := Lib.hid h2
 have hz2 := h2.size
 have HO := Lib.hid ho
 have hz1 := H1.out.size
 (try simp only [World.size_alloc] at hz1 hz2)
 clear h2 ho KO KC
 (refine rowU w2 (w.heap.size + 1) fun q2_0 f2_0 l2_0 R2_0 => ?_; refine rowU w2 (w.heap.size + 1 + 1) fun q2_1 f2_1 l2_1 R2_1 => ?_)
 have HW2 := Lib.hid (And.intro trivial (extA : Ext w w2))
 have HCK := Lib.hid (show Ck (w.heap.size + 1 + 1 + 1) (w2.alloc (.cells #[.slice B0 s.ledger.tickets.length d0, .slice B1 s.ledger.taps.length d1, .slice B2 s.ledger.verdicts.length d2, .int .i64 s.denied.version, .slice B3 s.denied.ids.length d3, .slice B4 s.gates.length d4, .slice B5 s.views.length d5, .int .i64 0] 126)) w2.heap.size ⟨.slice B0 s.ledger.tickets.length d0, .slice B1 s.ledger.taps.length d1, .slice B2 s.ledger.verdicts.length d2, .slice B3 s.denied.ids.length d3, .slice B4 s.gates.length d4, .slice B5 s.views.length d5⟩ s 0 from ⟨Bx.new, by omega, (HO.out.lower (by omega)).ext ((Ext.refl _).alloc _)⟩)
 have HR2 := Lib.hid (show Row (w2.alloc (.cells #[.slice B0 s.ledger.tickets.length d0, .slice B1 s.ledger.taps.length d1, .slice B2 s.ledger.verdicts.length d2, .int .i64 s.denied.version, .slice B3 s.denied.ids.length d3, .slice B4 s.gates.length d4, .slice B5 s.views.length d5, .int .i64 0] 126)) (w.heap.size + 1 + 1) #[.slice none 0 0, .slice none 0 0, .slice none 0 0, .int .i64 0, .slice none 0 0, .slice none 0 0, .slice none 0 0] from Row.alloc R2_1.out)
 go_wp2_with fail
 refine (KD.out _ _ _ _ (by trivial) HCK.out).mono ?_
 rintro e w3 ⟨rfl, hf, y3, hk3⟩
 have HF := Lib.hid (Ext.fr (HW2.out.2.alloc (.cells #[.slice B0 s.ledger.tickets.length d0, .slice B1 s.ledger.taps.length d1, .slice B2 s.ledger.verdicts.length d2, .int .i64 s.denied.version, .slice B3 s.denied.ids.length d3, .slice B4 s.gates.length d4, .slice B5 s.views.length d5, .int .i64 0] 126)) hf (fun q h => by omega))
 have HR3 := Lib.hid (hf.row (g := w.heap.size + 1 + 1) (fun h => by omega) HR2.out)
 have HK3 := Lib.hid hk3
 obtain ⟨u0, u1, u2, ui, ug, uv⟩ := y3
 obtain ⟨C0, k0, rfl⟩ : ∃ B d, u0 = .slice B D1.ledger.tickets.length d := hk3.own.tk.form
 obtain ⟨C1, k1, rfl⟩ : ∃ B d, u1 = .slice B D1.ledger.taps.length d := hk3.own.tp.form
 obtain ⟨C2, k2, rfl⟩ : ∃ B d, u2 = .slice B D1.ledger.verdicts.length d := hk3.own.vd.form
 obtain ⟨C3, k3, rfl⟩ : ∃ B d, ui = .slice B D1.denied.ids.length d := hk3.own.dn.form
 obtain ⟨C4, k4, rfl⟩ : ∃ B d, ug = .slice B D1.gates.length d := hk3.own.gt.form
 obtain ⟨C5, k5, rfl⟩ : ∃ B d, uv = .slice B D1.views.length d := hk3.own.vw.form
 have RB := Lib.hid hk3.box.row
 unfold cka at RB
 simp only at RB
 have hge := hk3.ge
 have q6 := HR3.out.2.1
 have f6 := HR3.out.2.2
 have l6 := HR3.out.1
 have hpw := RB.out.1
 clear hf hk3 HCK HR2 q2_0 f2_0 l2_0 R2_0 q2_1 f2_1 l2_1 R2_1 q1_0 f1_0 l1_0 R1_0 q1_1 f1_1 l1_1 R1_1 q1_2 f1_2 l1_2 R1_2 KD
 have HK := Lib.hid (fun (w' : World) (h : Row w' w2.heap.size #[.slice C0 D1.ledger.tickets.length k0, .slice C1 D1.ledger.taps.length k1, .slice C2 D1.ledger.verdicts.length k2, .int .i64 D1.denied.version, .slice C3 D1.denied.ids.length k3, .slice C4 D1.gates.length k4, .slice C5 D1.views.length k5, .int .i64 D2]) => h.2.1)
 have hne : w2.heap.size ≠ w.heap.size + 1 + 1 := by omega
 by_cases h3 : D3 = 0
 case neg =>
  have HQ2 := Lib.hid (show R = (st0, D2, D3) by rw [HQ.out, if_pos h3])
  have h3b : (D3 != 0) = true := by simpa using h3
  clear h3 HQ
  go_upto_region 7 with fail
  (refine T_begin (fun w' => Row w' w2.heap.size #[.slice C0 D1.ledger.tickets.length k0, .slice C1 D1.ledger.taps.length k1, .slice C2 D1.ledger.verdicts.length k2, .int .i64 D1.denied.version, .slice C3 D1.denied.ids.length k3, .slice C4 D1.gates.length k4, .slice C5 D1.views.length k5, .int .i64 D2]) 8 (by kernel_rfl) (RB.out.drew) (fun hS => ?_); simp only [List.length_cons, List.length_nil])
  (refine tkA 0 HK hS ?_; refine tkA 1 HK hS ?_; refine tkA 2 HK hS ?_; refine tkA 3 HK hS ?_; refine tkA 4 HK hS ?_; refine tkA 5 HK hS ?_)
  clear HK hS
  refine oA 6 fun K hK => ?_
  go_simp
  refine hK.out _ _ (.inr (by exact Row.drew (far7 hne RB.out))) ?_
  clear hK
  (try simp only [Act.put, lSet])
  refine oA 7 fun K hK => ?_
  go_simp
  refine hK.out _ _ (.inr (by exact Row.drew (far7 hne RB.out))) ?_
  clear hK
  (try simp only [Act.put, lSet])
  (refine oA 8 fun K hK => ?_; go_simp; refine hK.out _ _ (.inl (by kernel_rfl)) ?_; clear hK; (try simp only [Act.put, lSet]); refine T_done (by kernel_rfl) ?_ _)
  go_wp2_with fail
  rw [HQ2.out]
  refine bodyPost_ret (v := .tuple #[.agg #[.slice none 0 0, .slice none 0 0, .slice none 0 0, .int .i64 0, .slice none 0 0, .slice none 0 0, .slice none 0 0], .int .i64 D2, .int .i64 D3]) (by simp [results, Tryz.results38, go_sem, *]) rfl ⟨sv0, rfl, ?_, OwnS.nil⟩
  exact Ext.drew (ext7 (by omega) HF.out)
 have HQ2 := Lib.hid (show R = (D1, D2, D3) by rw [HQ.out, if_neg (by simpa using h3)])
 subst h3
 clear HQ
 go_upto_region 8 with fail
 (refine T_begin (fun w' => Row w' w2.heap.size #[.slice C0 D1.ledger.tickets.length k0, .slice C1 D1.ledger.taps.length k1, .slice C2 D1.ledger.verdicts.length k2, .int .i64 D1.denied.version, .slice C3 D1.denied.ids.length k3, .slice C4 D1.gates.length k4, .slice C5 D1.views.length k5, .int .i64 D2]) 10 (by kernel_rfl) (RB.out.drew) (fun hS => ?_); simp only [List.length_cons, List.length_nil])
 (refine tkA 0 HK hS ?_; refine tkA 1 HK hS ?_; refine tkA 2 HK hS ?_; refine tkA 3 HK hS ?_; refine tkA 4 HK hS ?_; refine tkA 5 HK hS ?_; refine tkA 6 HK hS ?_; refine tkA 7 HK hS ?_)
 clear HK hS
 refine oA 8 fun K hK => ?_
 go_simp
 refine hK.out _ _ (.inr (by exact Row.drew (far7 hne RB.out))) ?_
 clear hK
 (try simp only [Act.put, lSet])
 refine oA 9 fun K hK => ?_
 go_simp
 refine hK.out _ _ (.inr (by exact Row.drew (far7 hne RB.out))) ?_
 clear hK
 (try simp only [Act.put, lSet])
 (refine oA 10 fun K hK => ?_; go_simp; refine hK.out _ _ (.inl (by kernel_rfl)) ?_; clear hK; (try simp only [Act.put, lSet]); refine T_done (by kernel_rfl) ?_ _)
 go_wp2_with fail
 rw [HQ2.out]
 refine bodyPost_ret (v := .tuple #[.agg #[.slice C0 D1.ledger.tickets.length k0, .slice C1 D1.ledger.taps.length k1, .slice C2 D1.ledger.verdicts.length k2, .int .i64 D1.denied.version, .slice C3 D1.denied.ids.length k3, .slice C4 D1.gates.length k4, .slice C5 D1.views.length k5], .int .i64 D2, .int .i64 0]) (by simp [results, Tryz.results38, go_sem, *]) rfl ⟨⟨.slice C0 D1.ledger.tickets.length k0, .slice C1 D1.ledger.taps.length k1, .slice C2 D1.ledger.verdicts.length k2, .slice C3 D1.denied.ids.length k3, .slice C4 D1.gates.length k4, .slice C5 D1.views.length k5⟩, rfl, ?_, ?_⟩
 ·exact Ext.drew (ext7 (by omega) HF.out)
 ·exact (OwnS.lower (own7 (g := w.heap.size + 1 + 1) (base := w.heap.size + 1 + 1 + 1) (by omega) HK3.out.own) (by omega)).ext ((Ext.refl _).drew)
end Go.Proofs.YteojjbhadgkfgaaGreat
