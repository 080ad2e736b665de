/- Mw: parts of the proofs, laid together. -/
import Derived.Lib.SliceRun
import Derived.Lib.Walk
import Derived.BigRegion
import Derived.Test.YteojjbhadgkfgaaGreatMa
import Derived.Test.YteojjbhadgkfgaaGreatMo
/- Views of who leads: the plain side: what is right, who leads, who wins, who is up; laws of these. -/
namespace Lb
set_option linter.unusedVariables false
set_option maxRecDepth 100000
set_option linter.unusedSimpArgs false

def ckView (v : Vw) : Int :=
 if within v.epoch 0 99 = false ∨ within v.leader 0 1 = false then 3 else if v.epoch = 0 ∧ v.leader ≠ 0 then 4 else 0
def clash (v x : Vw) : Bool := x.epoch == v.epoch && x.leader != v.leader
/-- do two of one epoch have not one leader? pre: those ahead -/
def clashes : List Vw → List Vw → Bool
 | _, [] => false
 | pre, v :: l => pre.any (clash v) || clashes (pre ++ [v]) l
theorem clashes_cons (pre : List Vw) (v : Vw) (l : List Vw) : clashes pre (v :: l) = (pre.any (clash v) || clashes (pre ++ [v]) l) := rfl
def ckViews (l : List Vw) : Int :=
 if l.length ≠ 3 then 1 else if eachE ckView l ≠ 0 then eachE ckView l else if clashes [] l = true then 4 else 0
def countV (p : Vw → Bool) : List Vw → Int
 | [] => 0
 | v :: l => (if p v = true then 1 else 0) + countV p l
theorem countV_cons (p : Vw → Bool) (v : Vw) (l : List Vw) : countV p (v :: l) = (if p v = true then 1 else 0) + countV p l := rfl
def topV : Int → List Vw → Int
 | m, [] => m
 | m, v :: l => topV (max m v.epoch) l
def atTop (top : Int) (v : Vw) : Bool := v.epoch == top
def upTop (top : Int) (v : Vw) : Bool := v.epoch == top && v.up
/-- of three views: the leader of the first one of the greatest epoch -/
def whoTop (l : List Vw) : Int := match l.find? (atTop (topV 0 l)) with
 | some v => v.leader
 | none => 0
def isUp (l : List Vw) (i : Int) : Bool := match l[i.toNat]? with
 | some v => v.up
 | none => false
def leads (l : List Vw) : Bool := decide (0 < topV 0 l) && decide (3 < 2 * countV (upTop (topV 0 l)) l) && isUp l (whoTop l)
def whoV (l : List Vw) : Int × Bool := if leads l = true then (whoTop l, true) else (0, false)
/- the references' way -/
theorem ckView_ok (v : Vw) : ckView v = 0 ↔ 0 ≤ v.epoch ∧ v.epoch ≤ 99 ∧ 0 ≤ v.leader ∧ v.leader ≤ 1 ∧ (v.epoch = 0 → v.leader = 0) := by
 unfold ckView
 by_cases h : within v.epoch 0 99 = false ∨ within v.leader 0 1 = false
 ·rw [if_pos h]
  simp [within] at h
  constructor
  ·intro h; simp at h
  ·omega
 ·rw [if_neg h]
  simp [within] at h
  by_cases h2 : v.epoch = 0 ∧ v.leader ≠ 0
  ·rw [if_pos h2]
   constructor
   ·intro h; simp at h
   ·rintro ⟨-, -, -, -, h3⟩; exact absurd (h3 h2.1) h2.2
  ·rw [if_neg h2]
   simp only [true_iff]
   refine ⟨by omega, by omega, by omega, by omega, fun h3 => ?_⟩
   apply Classical.byContradiction
   intro h4
   exact h2 ⟨h3, h4⟩
theorem clashes_ok (l pre : List Vw) (hp : ∀ v ∈ pre, ∀ x ∈ pre, x.epoch = v.epoch → x.leader = v.leader) : clashes pre l = false ↔ ∀ v ∈ pre ++ l, ∀ x ∈ pre ++ l, x.epoch = v.epoch → x.leader = v.leader := by
 induction l generalizing pre with
 | nil => simpa [clashes] using hp
 | cons v l ih =>
  rw [clashes_cons, Bool.or_eq_false_iff, List.any_eq_false]
  have hcl : ∀ x, clash v x = true ↔ x.epoch = v.epoch ∧ x.leader ≠ v.leader := by intro x; simp [clash]
  constructor
  ·rintro ⟨h1, h2⟩
   have hp2 : ∀ a ∈ pre ++ [v], ∀ x ∈ pre ++ [v], x.epoch = a.epoch → x.leader = a.leader := by
    intro a ha x hx hxa
    simp only [List.mem_append, List.mem_singleton] at ha hx
    rcases ha with ha | rfl <;> rcases hx with hx | rfl
    ·exact hp a ha x hx hxa
    ·have := h1 a ha
     rw [hcl] at this
     apply Classical.byContradiction
     intro h
     exact this ⟨hxa.symm, fun e => h e.symm⟩
    ·have := h1 x hx
     rw [hcl] at this
     apply Classical.byContradiction
     intro h
     exact this ⟨hxa, h⟩
    ·rfl
   have := (ih (pre ++ [v]) hp2).1 h2
   simpa using this
  ·intro h
   have h' : ∀ a ∈ (pre ++ [v]) ++ l, ∀ x ∈ (pre ++ [v]) ++ l, x.epoch = a.epoch → x.leader = a.leader := by simpa using h
   refine ⟨fun x hx => ?_, (ih (pre ++ [v]) (fun a ha x hx => h' a (by simp only [List.mem_append] at ha ⊢; exact .inl ha) x (by simp only [List.mem_append] at hx ⊢; exact .inl hx))).2 h'⟩
   rw [hcl]
   rintro ⟨e1, e2⟩
   exact e2 (h v (by simp) x (by simp [hx]) e1)
def RightV (l : List Vw) : Prop := l.length = 3 ∧ (∀ v ∈ l, ckView v = 0) ∧ (∀ v ∈ l, ∀ x ∈ l, x.epoch = v.epoch → x.leader = v.leader)
theorem rightV_iff (l : List Vw) : ckViews l = 0 ↔ RightV l := by
 unfold ckViews RightV
 have hc := clashes_ok l [] (by simp)
 simp only [List.nil_append] at hc
 by_cases h3 : l.length = 3
 ·rw [if_neg (by simpa using h3)]
  by_cases he : eachE ckView l = 0
  ·rw [if_neg (by simpa using he)]
   have he2 := eachE_ok.1 he
   cases hcl : clashes [] l with
   | true =>
    simp only [if_true]
    constructor
    ·intro h; simp at h
    ·rintro ⟨-, -, h⟩
     rw [hc.2 h] at hcl
     cases hcl
   | false => exact ⟨fun _ => ⟨h3, he2, hc.1 hcl⟩, fun _ => rfl⟩
  ·rw [if_pos he]
   constructor
   ·intro h; exact absurd h he
   ·rintro ⟨-, h, -⟩; exact absurd (eachE_ok.2 h) he
 ·rw [if_pos h3]
  constructor
  ·intro h; simp at h
  ·rintro ⟨h, -, -⟩; exact absurd h h3

theorem topV_ge (m : Int) (l : List Vw) : m ≤ topV m l := by
 induction l generalizing m with
 | nil => exact Int.le_refl _
 | cons v l ih => have := ih (max m v.epoch); unfold topV; omega
theorem le_topV (m : Int) (l : List Vw) : ∀ v ∈ l, v.epoch ≤ topV m l := by
 induction l generalizing m with
 | nil => simp
 | cons x l ih =>
  intro v hv
  unfold topV
  rcases List.mem_cons.1 hv with rfl | hv
  ·have := topV_ge (max m v.epoch) l; omega
  ·exact ih _ v hv
theorem topV_le (m M : Int) (l : List Vw) (hm : m ≤ M) (h : ∀ v ∈ l, v.epoch ≤ M) : topV m l ≤ M := by
 induction l generalizing m with
 | nil => exact hm
 | cons x l ih =>
  unfold topV
  have := h x (by simp)
  exact ih _ (by omega) (fun v hv => h v (by simp [hv]))
theorem topV_mem (m : Int) (l : List Vw) : topV m l = m ∨ ∃ v ∈ l, v.epoch = topV m l := by
 induction l generalizing m with
 | nil => exact .inl rfl
 | cons x l ih =>
  unfold topV
  rcases ih (max m x.epoch) with h | ⟨v, hv, h⟩
  ·rw [h]
   by_cases hx : m ≤ x.epoch
   ·exact .inr ⟨x, by simp, by omega⟩
   ·exact .inl (by omega)
  ·exact .inr ⟨v, by simp [hv], h⟩
theorem whoTop_eq {l : List Vw} {L : Int} (he : ∃ v ∈ l, v.epoch = topV 0 l) (hL : ∀ v ∈ l, v.epoch = topV 0 l → v.leader = L) : whoTop l = L := by
 unfold whoTop
 cases hf : l.find? (atTop (topV 0 l)) with
 | none =>
  obtain ⟨v, hv, h⟩ := he
  rw [List.find?_eq_none] at hf
  have := hf v hv
  simp [atTop, h] at this
 | some v =>
  have h1 := List.find?_some hf
  have h2 := List.mem_of_find?_eq_some hf
  simp only [atTop, beq_iff_eq] at h1
  exact hL v h2 h1
end Lb

/- Views: laws of winning, and of being up or not. -/
namespace Lb
set_option linter.unusedVariables false
set_option maxRecDepth 100000
set_option linter.unusedSimpArgs false

theorem countV_nonneg (p : Vw → Bool) (l : List Vw) : 0 ≤ countV p l := by
 induction l with
 | nil => exact Int.le_refl _
 | cons x l ih => rw [countV_cons]; split <;> omega
/-- two lists of views that are alike but for who is up -/
def Alike (l m : List Vw) : Prop := l.length = m.length ∧ ∀ i (h1 : i < l.length) (h2 : i < m.length), l[i].epoch = m[i].epoch ∧ l[i].leader = m[i].leader
theorem Alike.mem {l m : List Vw} (h : Alike l m) {v : Vw} (hv : v ∈ l) : ∃ x ∈ m, v.epoch = x.epoch ∧ v.leader = x.leader := by
 obtain ⟨i, hi, rfl⟩ := List.mem_iff_getElem.1 hv
 have hi2 : i < m.length := by rw [← h.1]; exact hi
 exact ⟨m[i], List.getElem_mem hi2, h.2 i hi hi2⟩
theorem Alike.symm {l m : List Vw} (h : Alike l m) : Alike m l := ⟨h.1.symm, fun i h1 h2 => ⟨(h.2 i h2 h1).1.symm, (h.2 i h2 h1).2.symm⟩⟩
theorem Alike.right {l m : List Vw} (h : Alike l m) (hr : RightV m) : RightV l := by
 refine ⟨h.1.trans hr.1, fun v hv => ?_, fun v hv x hx hxe => ?_⟩
 ·obtain ⟨y, hy, e1, e2⟩ := h.mem hv
  have := (ckView_ok y).1 (hr.2.1 y hy)
  rw [ckView_ok, e1, e2]
  exact this
 ·obtain ⟨y, hy, e1, e2⟩ := h.mem hv
  obtain ⟨z, hz, e3, e4⟩ := h.mem hx
  rw [e2, e4]
  exact hr.2.2 y hy z hz (by rw [← e1, ← e3]; exact hxe)
theorem Alike.top {l m : List Vw} (h : Alike l m) : topV 0 l = topV 0 m := by
 have h1 := topV_le 0 (topV 0 m) l (topV_ge 0 m) (fun v hv => by
  obtain ⟨y, hy, e1, -⟩ := h.mem hv
  rw [e1]; exact le_topV 0 m y hy)
 have h2 := topV_le 0 (topV 0 l) m (topV_ge 0 l) (fun v hv => by
  obtain ⟨y, hy, e1, -⟩ := h.symm.mem hv
  rw [e1]; exact le_topV 0 l y hy)
 omega
theorem Alike.who {l m : List Vw} {L : Int} (h : Alike l m) (he : ∃ v ∈ m, v.epoch = topV 0 m) (hL : ∀ v ∈ m, v.epoch = topV 0 m → v.leader = L) : whoTop l = L := by
 obtain ⟨v, hv, hve⟩ := he
 obtain ⟨x, hx, e1, e2⟩ := h.symm.mem hv
 refine whoTop_eq ⟨x, hx, by rw [h.top, ← e1]; exact hve⟩ (fun y hy hye => ?_)
 obtain ⟨z, hz, e3, e4⟩ := h.mem hy
 rw [e4]
 exact hL z hz (by rw [← e3, ← h.top]; exact hye)
end Lb

/- Views of who leads: the closures over one view. -/
namespace Go.Proofs.YteojjbhadgkfgaaGreat
set_option linter.unusedSimpArgs false
set_option linter.unusedVariables false
set_option maxRecDepth 100000
open Go Go.RowKit Lb

theorem lead_within (n a b : Int) (w : World) :
  Calls Tryz.prog 117 #[.int .i64 n, .int .i64 a, .int .i64 b] w fun e w' => e = .returned (.bool (within n a b)) ∧ w = w' := by
 go_enter Tryz.func117, Tryz.ntmps117
 go_wp2
 all_goals
  go_ret
  exact ⟨ret_bool (by simp [within, *] <;> omega), rfl⟩

theorem lead_Check1 (x v : Vw) (g : Nat) (w : World) (hr : Row w g (vwc v)) :
  Calls Tryz.prog 119 #[.agg (vwc x), .pointer (some ⟨g, 0, none⟩)] w fun e w' => e = .returned (.bool (clash v x)) ∧ Ext w w' := by
 obtain ⟨x0, x1, x2⟩ := x
 obtain ⟨v0, v1, v2⟩ := v
 unfold vwc at hr ⊢
 apply Row.use hr; intro q f l R
 clear hr
 go_enter Tryz.func119, Tryz.ntmps119
 go_wp2
 all_goals
  go_ret
  refine ⟨ret_bool ?_, ?_⟩
  ·simp_all [clash]
  ·exact extA
theorem lead_Who1 (x : Vw) (top : Int) (g : Nat) (w : World) (hr : Row w g #[.int .i64 top]) :
  Calls Tryz.prog 140 #[.agg (vwc x), .pointer (some ⟨g, 0, none⟩)] w fun e w' => e = .returned (.bool (atTop top x)) ∧ Ext w w' := by
 obtain ⟨x0, x1, x2⟩ := x
 unfold vwc
 apply Row.use hr; intro q f l R
 clear hr
 go_enter Tryz.func140, Tryz.ntmps140
 go_wp2
 all_goals
  go_ret
  refine ⟨ret_bool ?_, ?_⟩
  ·simp_all [atTop]
  ·exact extA
theorem lead_Who2 (x : Vw) (top : Int) (g : Nat) (w : World) (hr : Row w g #[.int .i64 top]) :
  Calls Tryz.prog 142 #[.agg (vwc x), .pointer (some ⟨g, 0, none⟩)] w fun e w' => e = .returned (.bool (upTop top x)) ∧ Ext w w' := by
 obtain ⟨x0, x1, x2⟩ := x
 unfold vwc
 apply Row.use hr; intro q f l R
 clear hr
 go_enter Tryz.func142, Tryz.ntmps142
 go_wp2
 all_goals
  go_ret
  refine ⟨ret_bool ?_, ?_⟩
  ·simp_all [upTop]
  ·exact extA
end Go.Proofs.YteojjbhadgkfgaaGreat

/- slices.IndexFunc and ContainsFunc over views, at whatever predicate. -/
namespace Go.Proofs.YteojjbhadgkfgaaGreat
set_option linter.unusedSimpArgs false
set_option linter.unusedVariables false
set_option maxRecDepth 100000
open Go Go.RowKit Lb

set_option maxHeartbeats 2000000 in
theorem IndexFunc_view (p : Vw → Bool) (g : Nat) (lb : Array Value) (eg : ∀ args w, (callFunc g args).run Tryz.prog w = .ok (.enter g args) w) (l : List Vw) (v : Value) (w : World) (hr : RdL 3 vwc w v l)
  (hp : ∀ W x, Ext w W → Calls Tryz.prog g (#[.agg (vwc x)] ++ lb) W fun e w' => e = .returned (.bool (p x)) ∧ Ext W w') :
  Calls Tryz.prog 139 #[v, .func (.func g) #[] lb] w fun e w' => e = .returned (.int .i64 (ixBy p l)) ∧ Ext w w' := by
 obtain ⟨A, c, rfl, h1, h2, h3⟩ := hr
 have hm : l.length ≤ 9223372036854775807 := by unfold maxLen at h2; omega
 have H3 := Lib.hid h3
 have HP := Lib.hid hp
 clear h3 h1 h2 hp
 go_enter Tryz.func139, Tryz.ntmps139
 go_wp2
 go_loopg [4, 5, 8] l.length (fun gg _ _ s8 wr => ∃ k : Nat, k ≤ l.length ∧ l.length - k ≤ gg ∧ s8 = .int .i64 k ∧ Aside (Ext w wr) ∧ Aside (∀ j (hj : j < k), (h : j < l.length) → p l[j] = false))
 case atStart => exact ⟨0, Nat.zero_le _, by omega, rfl, Ext.refl _, fun j hj => by omega⟩
 case round =>
  obtain ⟨k, hk, hg, rfl, HE, HA⟩ := hrel
  by_cases hlt : k < l.length
  ·obtain ⟨b, o, rfl, hb, hc⟩ := H3.out (by omega)
   have hbr : b < wr.heap.size := Nat.lt_of_lt_of_le hb HE.out.size
   have hcr : ∀ i u, (vwc l[k]!)[i]? = some u → wr.cell? ⟨b, o + k * 3 + i, none⟩ = some u := fun i u hu => (HE.out.cells b _ hb).trans (hc k hlt i u hu)
   clear hc
   have hkk : l[k]! = l[k] := by simp [hlt]
   rw [hkk] at hcr
   have HL := Lib.hid hlt
   have hlt' : (k : Int) < (l.length : Int) := by omega
   generalize hX : l[k] = x at hcr
   have HX := Lib.hid hX
   clear hX hkk
   have hcall := HP.out wr x HE.out
   obtain ⟨x0, x1, x2⟩ := x
   have c0 := hcr 0 _ rfl
   have c1 := hcr 1 _ rfl
   have c2 := hcr 2 _ rfl
   simp only [Nat.add_zero] at c0
   clear hcr
   unfold vwc at hcall
   cases hq : p ⟨x0, x1, x2⟩ with
   | true =>
    rw [hq] at hcall
    have HC := Lib.hid hcall
    have HQ := Lib.hid hq
    clear hcall hq
    go_wp2_with (go_at_fn g; refine (HC.out).mono ?_; rintro e w1 ⟨rfl, h1⟩)
    go_ret
    refine ⟨ret_int ?_, HE.out.trans h1⟩
    unfold ixBy
    rw [findIdx_some HL.out (fun j hj => HA.out j hj (by omega)) (by have := HQ.out; rw [← HX.out] at this; exact this)]
   | false =>
    rw [hq] at hcall
    have HC := Lib.hid hcall
    have HQ := Lib.hid hq
    clear hcall hq
    go_wp2_with (go_at_fn g; refine (HC.out).mono ?_; rintro e w1 ⟨rfl, h1⟩)
    go_roundg (l.length - (k + 1))
    case measure => omega
    case rel =>
     refine ⟨k + 1, by omega, by omega, by go_num, HE.out.trans h1, fun j hj h => ?_⟩
     by_cases e : j = k
     ·subst e; have := HQ.out; rw [← HX.out] at this; exact this
     ·exact HA.out j (by omega) h
  ·have hkl : k = l.length := by omega
   have hge : ¬ (k : Int) < (l.length : Int) := by omega
   have HK := Lib.hid hkl
   clear hkl
   go_wp2
   go_ret
   refine ⟨ret_int ?_, HE.out⟩
   unfold ixBy
   rw [findIdx_none (fun j hj => HA.out j (by have := HK.out; omega) hj)]

set_option maxHeartbeats 2000000 in
theorem ContainsFunc_view (p : Vw → Bool) (g : Nat) (lb : Array Value) (eg : ∀ args w, (callFunc g args).run Tryz.prog w = .ok (.enter g args) w) (l : List Vw) (v : Value) (w : World) (hr : RdL 3 vwc w v l)
  (hp : ∀ W x, Ext w W → Calls Tryz.prog g (#[.agg (vwc x)] ++ lb) W fun e w' => e = .returned (.bool (p x)) ∧ Ext W w') :
  Calls Tryz.prog 118 #[v, .func (.func g) #[] lb] w fun e w' => e = .returned (.bool (l.any p)) ∧ Ext w w' := by
 have hi := IndexFunc_view p g lb eg l v w hr hp
 rw [← ixBy_any]
 generalize ixBy p l = r at hi
 have HI := Lib.hid hi
 clear hi hp hr eg
 go_enter Tryz.func118, Tryz.ntmps118
 go_wp2_with fail
 refine (HI.out).mono ?_
 rintro e w1 ⟨rfl, h1⟩
 have H1 := Lib.hid h1
 clear h1
 go_wp2_with fail
 all_goals
  go_ret
  exact ⟨ret_bool (by simp_all), H1.out⟩
end Go.Proofs.YteojjbhadgkfgaaGreat

/- lead.Check. -/
namespace Go.Proofs.YteojjbhadgkfgaaGreat
set_option linter.unusedSimpArgs false
set_option linter.unusedVariables false
set_option maxRecDepth 100000
open Go Go.RowKit Lb

theorem RdL.vw_at {w : World} {v : Value} {l : List Vw} (h : RdL 3 vwc w v l) {A : Option Addr} {n c : Nat} (hv : v = .slice A n c) {k : Nat} (hk : k < l.length) : ∃ b o, A = some ⟨b, o, none⟩ ∧ b < w.heap.size ∧
  w.cell? ⟨b, o + k * 3, none⟩ = some (.int .i64 l[k].epoch) ∧ w.cell? ⟨b, o + k * 3 + 1, none⟩ = some (.int .i64 l[k].leader) ∧ w.cell? ⟨b, o + k * 3 + 2, none⟩ = some (.bool l[k].up) := by
 subst hv
 obtain ⟨b, o, c', hv, hb, hc⟩ := h.at_ hk
 injection hv with hA
 exact ⟨b, o, hA, hb, hc 0 _ rfl, hc 1 _ rfl, hc 2 _ rfl⟩
theorem any_clash (w : World) (v : Vw) (g : Nat) (l : List Vw) (s : Value) (hr : RdL 3 vwc w s l) (hg : Row w g (vwc v)) :
  Calls Tryz.prog 118 #[s, .func (.func 119) #[] #[.pointer (some ⟨g, 0, none⟩)]] w fun e w' => e = .returned (.bool (l.any (clash v))) ∧ Ext w w' :=
 ContainsFunc_view (clash v) 119 #[.pointer (some ⟨g, 0, none⟩)] (fun args w => by simp [go_sem]) l s w hr (fun W x h => lead_Check1 x v g W (hg.ext h))

set_option maxRecDepth 100000 in
set_option maxHeartbeats 4000000 in
theorem lead_Check (l : List Vw) (v : Value) (w : World) (hr : RdL 3 vwc w v l) :
  Calls Tryz.prog 72 #[v] w fun e w' => e = .returned (.int .i64 (ckViews l)) ∧ Ext w w' := by
 obtain ⟨A, c, rfl, hmc, hm0⟩ := hr.form
 have hm : l.length ≤ 9223372036854775807 := by unfold maxLen at hm0; omega
 unfold ckViews
 by_cases h3 : l.length = 3
 ·rw [if_neg (by simpa using h3), h3]
  rw [h3] at hr
  have HRd := Lib.hid hr
  have HL := Lib.hid h3
  have h3c : 3 ≤ c := by omega
  generalize hR1 : eachE ckView l = r1
  generalize hR2 : clashes [] l = r2
  generalize hR3 : (if r1 ≠ 0 then r1 else if r2 = true then (4 : Int) else 0) = res
  have HR1 := Lib.hid hR1
  have HR2 := Lib.hid hR2
  have HR3 := Lib.hid hR3
  clear hr h3 hR1 hR2 hR3 hm hm0 hmc
  go_enter Tryz.func72, Tryz.ntmps72
  go_wp2_with fail
  go_loopg [2, 4, 12] 3 (fun gg _ _ s12 wr => ∃ k : Nat, k ≤ 3 ∧ 3 - k ≤ gg ∧ s12 = .int .i64 k ∧ Aside (Ext w wr) ∧ Aside (eachE ckView (l.drop k) = r1))
  case atStart => exact ⟨0, by omega, by omega, rfl, Ext.refl _, HR1.out⟩
  case round =>
   obtain ⟨k, hk, hg, rfl, HE, HA⟩ := hrel
   by_cases hlt : k < 3
   ·have hkl : k < l.length := by rw [HL.out]; exact hlt
    have hlt' : (k : Int) < 3 := by omega
    obtain ⟨b, o, rfl, hb, c0, c1, c2⟩ := (HRd.out.ext HE.out).vw_at rfl hkl
    have hA := HA.out
    rw [List.drop_eq_getElem_cons hkl, eachE_cons] at hA
    have hck : ckView l[k] = if within l[k].epoch 0 99 = false ∨ within l[k].leader 0 1 = false then 3 else if l[k].epoch = 0 ∧ l[k].leader ≠ 0 then 4 else 0 := rfl
    have hW0 := fun w => lead_within l[k].epoch 0 99 w
    have hW1 := fun w => lead_within l[k].leader 0 1 w
    generalize ckView l[k] = q at hA hck
    generalize l[k].epoch = x0 at *
    generalize l[k].leader = x1 at *
    generalize l[k].up = x2 at *
    generalize within x0 0 99 = z0 at *
    generalize within x1 0 1 = z1 at *
    have HW0 := Lib.hid hW0
    have HW1 := Lib.hid hW1
    have HE2 := Lib.hid HE.out
    clear hW0 hW1 HE HA hkl
    by_cases hq : q = 0
    ·have hA2 : eachE ckView (l.drop (k + 1)) = r1 := by rw [if_neg (by simpa using hq)] at hA; exact hA
     have HA2 := Lib.hid hA2
     have hz : z0 = true ∧ z1 = true ∧ ¬ (x0 = 0 ∧ x1 ≠ 0) := by
      rw [hq] at hck
      cases z0 <;> cases z1 <;> simp at hck ⊢
      exact hck
     obtain ⟨rfl, rfl, hz2⟩ := hz
     clear hA hA2 hck hq
     by_cases hx0 : x0 = 0
     ·have hx1 : x1 = 0 := by
       apply Classical.byContradiction
       intro h
       exact hz2 ⟨hx0, h⟩
      subst hx0 hx1
      clear hz2
      go_wp2_with fail
      refine (HW0.out _).mono ?_
      rintro e w' ⟨rfl, rfl⟩
      go_wp2_with fail
      refine (HW1.out _).mono ?_
      rintro e w' ⟨rfl, rfl⟩
      go_wp2_with fail
      go_roundg (3 - (k + 1))
      case measure => omega
      case rel => exact ⟨k + 1, by omega, by omega, by go_num, (show Ext w _ by exact extA), HA2.out⟩
     ·have hx0b : (x0 == 0) = false := by simpa using hx0
      clear hz2
      go_wp2_with fail
      refine (HW0.out _).mono ?_
      rintro e w' ⟨rfl, rfl⟩
      go_wp2_with fail
      refine (HW1.out _).mono ?_
      rintro e w' ⟨rfl, rfl⟩
      go_wp2_with fail
      go_roundg (3 - (k + 1))
      case measure => omega
      case rel => exact ⟨k + 1, by omega, by omega, by go_num, (show Ext w _ by exact extA), HA2.out⟩
    ·have hA2 : res = q := by rw [if_pos hq] at hA; rw [← HR3.out, ← hA, if_pos hq]
     clear hA HR3
     cases z0
     ·have hq3 : res = 3 := by rw [hA2, hck]; simp
      have HQ := Lib.hid hq3
      clear hA2 hck hq hq3
      go_wp2_with fail
      refine (HW0.out _).mono ?_
      rintro e w' ⟨rfl, rfl⟩
      go_wp2_with fail
      go_ret
      refine ⟨ret_int (by rw [HQ.out]), ?_⟩
      exact extA
     ·cases z1
      ·have hq3 : res = 3 := by rw [hA2, hck]; simp
       have HQ := Lib.hid hq3
       clear hA2 hck hq hq3
       go_wp2_with fail
       refine (HW0.out _).mono ?_
       rintro e w' ⟨rfl, rfl⟩
       go_wp2_with fail
       refine (HW1.out _).mono ?_
       rintro e w' ⟨rfl, rfl⟩
       go_wp2_with fail
       go_ret
       refine ⟨ret_int (by rw [HQ.out]), ?_⟩
       exact extA
      ·have hz : x0 = 0 ∧ x1 ≠ 0 := by
        apply Classical.byContradiction
        intro h
        rw [if_neg (by simp), if_neg h] at hck
        exact hq hck
       have hq3 : res = 4 := by rw [hA2, hck, if_neg (by simp), if_pos hz]
       have HQ := Lib.hid hq3
       obtain ⟨hx0, hx1⟩ := hz
       have hx1b : (x1 != 0) = true := by simpa using hx1
       subst hx0
       clear hA2 hck hq hq3 hx1
       go_wp2_with fail
       refine (HW0.out _).mono ?_
       rintro e w' ⟨rfl, rfl⟩
       go_wp2_with fail
       refine (HW1.out _).mono ?_
       rintro e w' ⟨rfl, rfl⟩
       go_wp2_with fail
       go_ret
       refine ⟨ret_int (by rw [HQ.out]), ?_⟩
       exact extA
   ·have hk3 : k = 3 := by omega
    subst hk3
    have hr0 : r1 = 0 := by
     have := HA.out
     rw [List.drop_of_length_le (by rw [HL.out]; exact Nat.le_refl _)] at this
     exact this.symm
    have HZ := Lib.hid (show (if r2 = true then (4 : Int) else 0) = res by rw [← HR3.out, hr0]; simp)
    have HE2 := Lib.hid HE.out
    clear HA HE HR3 hr0 HR1
    go_wp2_with fail
    go_loopg [2, 5, 6, 39] 3 (fun gg _ _ _ s39 wq => ∃ k : Nat, k ≤ 3 ∧ 3 - k ≤ gg ∧ s39 = .int .i64 k ∧ Aside (Ext w wq) ∧ Aside (clashes (l.take k) (l.drop k) = r2))
    case atStart => exact ⟨0, by omega, by omega, rfl, HE2.out, HR2.out⟩
    case round =>
     obtain ⟨k, hk, hg, rfl, HE, HA⟩ := hrel
     by_cases hlt : k < 3
     ·have hkl : k < l.length := by rw [HL.out]; exact hlt
      have hlt' : (k : Int) < 3 := by omega
      have hle' : (k : Int) ≤ (c : Int) := by omega
      obtain ⟨b, o, rfl, hb, c0, c1, c2⟩ := (HRd.out.ext HE.out).vw_at rfl hkl
      have hA := HA.out
      rw [List.drop_eq_getElem_cons hkl, clashes_cons, ← take_snoc_get l k hkl] at hA
      have hRT := (HRd.out).take k (by omega)
      have HAN := Lib.hid (fun (W : World) (g : Nat) (h : Ext w W) (hg : Row W g (vwc l[k])) => any_clash W l[k] g (l.take k) _ (hRT.ext h) hg)
      generalize l[k] = x at *
      generalize (l.take k).any (clash x) = q at *
      obtain ⟨x0, x1, x2⟩ := x
      simp only at c0 c1 c2
      unfold vwc at HAN
      have HE3 := Lib.hid HE.out
      have hlk : (l.take k).length = k := by rw [List.length_take, HL.out]; omega
      clear HE HA hRT hkl hlk
      cases q
      ·rw [Bool.false_or] at hA
       have HA2 := Lib.hid hA
       clear hA
       go_wp2_with fail
       refine (HAN.out _ _ (by exact extA) (Row.newAt rfl)).mono ?_
       rintro e w1 ⟨rfl, h1⟩
       have H1 := Lib.hid h1
       clear h1
       go_wp2_with fail
       go_roundg (3 - (k + 1))
       case measure => omega
       case rel => exact ⟨k + 1, by omega, by omega, by go_num, (show Ext w _ by exact extA), HA2.out⟩
      ·rw [Bool.true_or] at hA
       have HQ := Lib.hid (show res = 4 by rw [← HZ.out, ← hA]; simp)
       clear hA
       go_wp2_with fail
       refine (HAN.out _ _ (by exact extA) (Row.newAt rfl)).mono ?_
       rintro e w1 ⟨rfl, h1⟩
       have H1 := Lib.hid h1
       clear h1
       go_wp2_with fail
       go_ret
       refine ⟨ret_int (by rw [HQ.out]), ?_⟩
       exact extA
     ·have hk3 : k = 3 := by omega
      subst hk3
      have HQ := Lib.hid (show res = 0 by
       have := HA.out
       rw [List.drop_of_length_le (by rw [HL.out]; exact Nat.le_refl _)] at this
       rw [← HZ.out, ← this]
       simp [clashes])
      have HE3 := Lib.hid HE.out
      clear HA HE
      go_wp2_with fail
      go_ret
      exact ⟨ret_int (by rw [HQ.out]), HE3.out⟩
 ·rw [if_pos h3]
  have h3b : ((l.length : Int) != 3) = true := by
   have : (l.length : Int) ≠ 3 := by omega
   simpa using this
  clear hr h3
  go_enter Tryz.func72, Tryz.ntmps72
  go_wp2_with fail
  go_ret
  exact ⟨ret_int rfl, Ext.refl _⟩
end Go.Proofs.YteojjbhadgkfgaaGreat

/- lead: many, greatest, Who, Now. -/
namespace Go.Proofs.YteojjbhadgkfgaaGreat
set_option linter.unusedSimpArgs false
set_option linter.unusedVariables false
set_option maxRecDepth 100000
open Go Go.RowKit Lb

set_option maxHeartbeats 2000000 in
theorem lead_many (p : Vw → Bool) (g : Nat) (lb : Array Value) (eg : ∀ args w, (callFunc g args).run Tryz.prog w = .ok (.enter g args) w) (l : List Vw) (v : Value) (w : World) (hr : RdL 3 vwc w v l) (h3 : l.length = 3)
  (hp : ∀ W x, Ext w W → Calls Tryz.prog g (#[.agg (vwc x)] ++ lb) W fun e w' => e = .returned (.bool (p x)) ∧ Ext W w') :
  Calls Tryz.prog 141 #[v, .func (.func g) #[] lb] w fun e w' => e = .returned (.int .i64 (countV p l)) ∧ Ext w w' := by
 obtain ⟨A, c, rfl, hmc, hm0⟩ := hr.form
 rw [h3] at hr ⊢
 have HRd := Lib.hid hr
 have HL := Lib.hid h3
 have HP := Lib.hid hp
 generalize hR : countV p l = r
 have HR := Lib.hid hR
 clear hr h3 hp hmc hm0 hR
 go_enter Tryz.func141, Tryz.ntmps141
 go_wp2_with fail
 go_loopg [5, 7, 10] 3 (fun gg s5 _ s10 wr => ∃ (k : Nat) (n : Int), k ≤ 3 ∧ 3 - k ≤ gg ∧ s5 = .int .i64 n ∧ s10 = .int .i64 k ∧ 0 ≤ n ∧ n ≤ k ∧ Aside (Ext w wr) ∧ Aside (n + countV p (l.drop k) = r))
 case atStart => exact ⟨0, 0, by omega, by omega, rfl, rfl, by omega, by omega, Ext.refl _, by rw [Int.zero_add]; exact HR.out⟩
 case round =>
  obtain ⟨k, n, hk, hg, rfl, rfl, hn0, hnk, HE, HA⟩ := hrel
  by_cases hlt : k < 3
  ·have hkl : k < l.length := by rw [HL.out]; exact hlt
   have hlt' : (k : Int) < 3 := by omega
   obtain ⟨b, o, rfl, hb, c0, c1, c2⟩ := (HRd.out.ext HE.out).vw_at rfl hkl
   have hA := HA.out
   rw [List.drop_eq_getElem_cons hkl, countV_cons] at hA
   have hcall := HP.out
   generalize l[k] = x at *
   have hcx := fun W h => hcall W x h
   generalize p x = q at *
   obtain ⟨x0, x1, x2⟩ := x
   simp only at c0 c1 c2
   unfold vwc at hcx
   have HC := Lib.hid hcx
   have HE2 := Lib.hid HE.out
   have hw1 : IntKind.i64.wrap (n + 1) = n + 1 := IntWalk.i64_in _ (by omega)
   clear hcall hcx HE HA hkl
   cases q
   ·have HA2 := Lib.hid (show n + countV p (l.drop (k + 1)) = r by simpa using hA)
    clear hA
    go_wp2_with (go_at_fn g; refine (HC.out _ (by exact extA)).mono ?_; rintro e w1 ⟨rfl, h1⟩; have H1 := Lib.hid h1; clear h1)
    go_roundg (3 - (k + 1))
    case measure => omega
    case rel => exact ⟨k + 1, n, by omega, by omega, rfl, by go_num, by omega, by push_cast; omega, (show Ext w _ by exact extA), HA2.out⟩
   ·have HA2 := Lib.hid (show n + 1 + countV p (l.drop (k + 1)) = r by simp at hA; omega)
    clear hA
    go_wp2_with (go_at_fn g; refine (HC.out _ (by exact extA)).mono ?_; rintro e w1 ⟨rfl, h1⟩; have H1 := Lib.hid h1; clear h1)
    go_roundg (3 - (k + 1))
    case measure => omega
    case rel => exact ⟨k + 1, n + 1, by omega, by omega, by go_num, by go_num, by omega, by push_cast; omega, (show Ext w _ by exact extA), HA2.out⟩
  ·have hk3 : k = 3 := by omega
   subst hk3
   have HQ := Lib.hid (show n = r by
    have := HA.out
    rw [List.drop_of_length_le (by rw [HL.out]; exact Nat.le_refl _)] at this
    simpa [countV] using this)
   have HE3 := Lib.hid HE.out
   clear HA HE
   go_wp2_with fail
   go_ret
   exact ⟨ret_int (by rw [HQ.out]), HE3.out⟩

set_option maxHeartbeats 2000000 in
theorem lead_greatest (l : List Vw) (v : Value) (w : World) (hr : RdL 3 vwc w v l) (h3 : l.length = 3) :
  Calls Tryz.prog 138 #[v] w fun e w' => e = .returned (.int .i64 (topV 0 l)) ∧ Ext w w' := by
 obtain ⟨A, c, rfl, hmc, hm0⟩ := hr.form
 rw [h3] at hr ⊢
 have HRd := Lib.hid hr
 have HL := Lib.hid h3
 generalize hR : topV 0 l = r
 have HR := Lib.hid hR
 clear hr h3 hmc hm0 hR
 go_enter Tryz.func138, Tryz.ntmps138
 go_wp2_with fail
 go_loopg [3, 5, 8] 3 (fun gg s3 _ s8 wr => ∃ (k : Nat) (n : Int), k ≤ 3 ∧ 3 - k ≤ gg ∧ s3 = .int .i64 n ∧ s8 = .int .i64 k ∧ Aside (Ext w wr) ∧ Aside (topV n (l.drop k) = r))
 case atStart => exact ⟨0, 0, by omega, by omega, rfl, rfl, Ext.refl _, HR.out⟩
 case round =>
  obtain ⟨k, n, hk, hg, rfl, rfl, HE, HA⟩ := hrel
  by_cases hlt : k < 3
  ·have hkl : k < l.length := by rw [HL.out]; exact hlt
   have hlt' : (k : Int) < 3 := by omega
   obtain ⟨b, o, rfl, hb, c0, c1, c2⟩ := (HRd.out.ext HE.out).vw_at rfl hkl
   have hA := HA.out
   rw [List.drop_eq_getElem_cons hkl] at hA
   unfold topV at hA
   generalize l[k] = x at *
   obtain ⟨x0, x1, x2⟩ := x
   simp only at c0 c1 c2 hA
   have HE2 := Lib.hid HE.out
   have HA2 := Lib.hid hA
   clear HE HA hkl hA
   go_wp2_with fail
   all_goals
    go_roundg (3 - (k + 1))
    case measure => omega
    case rel =>
     refine ⟨k + 1, _, by omega, by omega, rfl, by go_num, (show Ext w _ by exact extA), ?_⟩
     have hA := HA2.out
     first
      | exact hA
      | (rw [show max n x0 = x0 by omega] at hA; exact hA)
      | (rw [show max n x0 = n by omega] at hA; exact hA)
  ·have hk3 : k = 3 := by omega
   subst hk3
   have HQ := Lib.hid (show n = r by
    have := HA.out
    rw [List.drop_of_length_le (by rw [HL.out]; exact Nat.le_refl _)] at this
    exact this)
   have HE3 := Lib.hid HE.out
   clear HA HE
   go_wp2_with fail
   go_ret
   exact ⟨ret_int (by rw [HQ.out]), HE3.out⟩
end Go.Proofs.YteojjbhadgkfgaaGreat

/- lead.Who and Now. -/
namespace Go.Proofs.YteojjbhadgkfgaaGreat
set_option linter.unusedSimpArgs false
set_option linter.unusedVariables false
set_option maxRecDepth 100000
open Go Go.RowKit Lb

theorem ixBy_find {α : Type} (p : α → Bool) (l : List α) {x : α} (h : l.find? p = some x) : ∃ i : Nat, ixBy p l = i ∧ ∃ hi : i < l.length, l[i] = x := by
 rw [List.find?_eq_some_iff_getElem] at h
 obtain ⟨hp, i, hi, hx, hj⟩ := h
 refine ⟨i, ?_, hi, hx⟩
 unfold ixBy
 rw [findIdx_some hi (fun j hj' => by simpa using hj j hj') (by rw [hx]; exact hp)]
theorem top_find {l : List Vw} (hr : RightV l) : ∃ v, l.find? (atTop (topV 0 l)) = some v := by
 cases hf : l.find? (atTop (topV 0 l)) with
 | some v => exact ⟨v, rfl⟩
 | none =>
  exfalso
  rw [List.find?_eq_none] at hf
  rcases topV_mem 0 l with h | ⟨v, hv, h⟩
  ·have hp : 0 < l.length := by rw [hr.1]; omega
   have hm := List.getElem_mem hp
   have h1 := le_topV 0 l _ hm
   have h2 := (ckView_ok _).1 (hr.2.1 _ hm)
   have h3 := hf _ hm
   simp only [atTop, beq_iff_eq] at h3
   omega
  ·have h3 := hf _ hv
   simp [atTop, h] at h3

set_option maxHeartbeats 4000000 in
theorem lead_Who (l : List Vw) (v : Value) (w : World) (hr : RdL 3 vwc w v l) (hd : ckViews l = 0) :
  Calls Tryz.prog 89 #[v] w fun e w' => e = .returned (.tuple #[.int .i64 (whoV l).1, .bool (whoV l).2]) ∧ Ext w w' := by
 have hR := (rightV_iff l).1 hd
 obtain ⟨x, hx⟩ := top_find hR
 obtain ⟨i, hi, hil, hlx⟩ := ixBy_find _ _ hx
 have hwt : whoTop l = x.leader := by unfold whoTop; rw [hx]
 have hxr := (ckView_ok x).1 (hR.2.1 x (by rw [← hlx]; exact List.getElem_mem hil))
 obtain ⟨n, hn⟩ : ∃ n : Nat, x.leader = n := ⟨x.leader.toNat, by omega⟩
 have hn3 : n < l.length := by rw [hR.1]; omega
 have hup : isUp l x.leader = l[n].up := by
  unfold isUp
  rw [hn, Int.toNat_natCast, List.getElem?_eq_getElem hn3]
 have HG := Lib.hid (fun (w' : World) (h : Ext w w') => lead_greatest l v w' (hr.ext h) hR.1)
 have HI := Lib.hid (fun (w' : World) (g : Nat) (h : Ext w w') (hg : Row w' g #[.int .i64 (topV 0 l)]) => IndexFunc_view (atTop (topV 0 l)) 140 #[.pointer (some ⟨g, 0, none⟩)] (fun args w => by simp [go_sem]) l v w' (hr.ext h) (fun W x h => lead_Who1 x (topV 0 l) g W (hg.ext h)))
 have HM := Lib.hid (fun (w' : World) (g : Nat) (h : Ext w w') (hg : Row w' g #[.int .i64 (topV 0 l)]) => lead_many (upTop (topV 0 l)) 142 #[.pointer (some ⟨g, 0, none⟩)] (fun args w => by simp [go_sem]) l v w' (hr.ext h) hR.1 (fun W x h => lead_Who2 x (topV 0 l) g W (hg.ext h)))
 have hcnt := countV_nonneg (upTop (topV 0 l)) l
 have hcl : countV (upTop (topV 0 l)) l ≤ 3 := by
  have : ∀ m : List Vw, countV (upTop (topV 0 l)) m ≤ m.length := by
   intro m
   induction m with
   | nil => simp [countV]
   | cons a m ih => rw [countV_cons, List.length_cons]; push_cast; split <;> omega
  have := this l
  rw [hR.1] at this
  exact this
 unfold whoV leads
 rw [hwt, hup]
 rw [hi] at HI
 have hli : l[i].leader = n := by rw [hlx]; exact hn
 obtain ⟨A, c, rfl, -, -⟩ := hr.form
 obtain ⟨b, o, rfl, hb, c0, c1, c2⟩ := hr.vw_at rfl hil
 obtain ⟨b', o', hA, -, d0, d1, d2⟩ := hr.vw_at rfl hn3
 injection hA with hA
 injection hA with h1 h2
 subst h1 h2
 rw [hli] at c1
 rw [hn]
 have hi3 : i < 3 := by rw [← hR.1]; exact hil
 have hn3' : n < 3 := by rw [← hR.1]; exact hn3
 rw [hR.1] at HG HI HM ⊢
 generalize l[n].up = u at *
 generalize topV 0 l = top at *
 generalize countV (upTop top) l = m at *
 generalize hres : (if (decide (0 < top) && decide (3 < 2 * m) && u) = true then ((n : Int), true) else (0, false)) = res
 have HRES := Lib.hid hres
 have hw2 : IntKind.i64.wrap (2 * m) = 2 * m := IntWalk.i64_in _ (by omega)
 have hii : (i : Int) < 3 := by omega
 have hni : (n : Int) < 3 := by omega
 clear hres hr hd hR hx hlx hwt hxr hn hup hli hi hil hn3 c0 c2 d0 d1 hcnt
 go_enter Tryz.func89, Tryz.ntmps89
 go_wp2_with fail
 (refine (HG.out _ (by exact extA)).mono ?_; rintro e w1 ⟨rfl, h1⟩; have H1 := Lib.hid h1; have hz1 := h1.size; clear h1; (try simp only [World.size_alloc, size_set, World.heap_drewN, size_drew] at hz1))
 go_wp2_with fail
 have hc1 : (w1.alloc (.cells #[.int .i64 top] 3)).cell? ⟨b, o + i * 3 + 1, none⟩ = some (.int .i64 n) := by
  have hE : Ext w (w1.alloc (.cells #[.int .i64 top] 3)) := by exact extA
  exact (hE.cells b _ hb).trans c1
 refine (HI.out _ _ (by exact extA) (Row.newAt rfl)).mono ?_
 rintro e w2 ⟨rfl, h2⟩
 have H2 := Lib.hid h2
 have hz2 := h2.size
 clear h2
 (apply Row.use (w := w2) (g := w1.heap.size); (focus (exact rowA)); intro q2_0 f2_0 l2_0 R2_0; (try simp only [lSet] at q2_0 R2_0))
 have hE2 : Ext w w2 := by exact extA
 have e1 := (hE2.cells b (o + i * 3 + 1) hb).trans c1
 go_wp2_with fail
 refine (HM.out _ _ hE2 R2_0.out).mono ?_
 rintro e w3 ⟨rfl, h3⟩
 have H3 := Lib.hid h3
 clear h3
 (apply Row.use (w := w3) (g := w1.heap.size); (focus (exact rowA)); intro q3_0 f3_0 l3_0 R3_0; (try simp only [lSet] at q3_0 R3_0))
 have hE3 : Ext w w3 := by exact extA
 have e2 := (hE3.cells b (o + n * 3 + 2) hb).trans d2
 have HE3 := Lib.hid hE3
 clear hE2 hE3
 by_cases ht : 0 < top
 ·have htd : decide (0 < top) = true := by simpa using ht
  by_cases hm : 3 < 2 * m
  ·have hmd : decide (3 < 2 * m) = true := by simpa using hm
   cases u
   ·have HQ := Lib.hid (show res = (0, false) by rw [← HRES.out]; simp)
    clear HRES
    go_wp2_with fail
    go_ret2
    exact ⟨by rw [HQ.out]; rfl, HE3.out⟩
   ·have HQ := Lib.hid (show res = ((n : Int), true) by rw [← HRES.out]; simp [ht, hm])
    clear HRES
    go_wp2_with fail
    go_ret2
    exact ⟨by rw [HQ.out]; rfl, HE3.out⟩
  ·have hmd : decide (3 < 2 * m) = false := by simpa using hm
   have HQ := Lib.hid (show res = (0, false) by rw [← HRES.out]; simp [hm])
   clear HRES
   go_wp2_with fail
   go_ret2
   exact ⟨by rw [HQ.out]; rfl, HE3.out⟩
 ·have htd : decide (0 < top) = false := by simpa using ht
  have HQ := Lib.hid (show res = (0, false) by rw [← HRES.out]; simp [ht])
  clear HRES
  go_wp2_with fail
  go_ret2
  exact ⟨by rw [HQ.out]; rfl, HE3.out⟩

end Go.Proofs.YteojjbhadgkfgaaGreat

/- slices.Clone over records. -/
namespace Go.Proofs.YteojjbhadgkfgaaGreat
set_option linter.unusedSimpArgs false
set_option linter.unusedVariables false
set_option maxRecDepth 100000
open Go Go.RowKit Lb

theorem info_vw : (Tryz.prog.info? 110).map (fun i => (i.zero, i.size, i.bytes)) = some (some (.agg #[.int .i64 0, .int .i64 0, .bool false]), 3, 24) := by kernel_rfl

set_option maxHeartbeats 2000000 in
set_option maxRecDepth 100000 in
/-- slices.Clone: the same records in a row of the call's own. -/
theorem Clone_vw (l : List Vw) (v : Value) (w : World) (hr : RdL 3 vwc w v l) (hb : l.length * 24 ≤ 140737488355328) :
  Calls Tryz.prog 145 #[v] w fun e w' => ∃ v', e = .returned v' ∧ Ext w w' ∧ OwnL 110 3 vwc w.heap.size w' v' l := by
 obtain ⟨i0, hi, hz0, hz1, hz2⟩ := info_parts info_vw
 obtain ⟨A, c, rfl, h1, h2, h3⟩ := hr
 have hlen := encs_length (enc := vwc) (k := 3) (fun _ => rfl) l
 have hm : l.length ≤ maxLen := Nat.le_trans h1 h2
 cases A with
 | none =>
  have hl : l = [] := by
   cases l with
   | nil => rfl
   | cons x l =>
    obtain ⟨b, o, h, _⟩ := h3 (by simp)
    cases h
  subst hl
  clear h3 h1 h2 hlen
  have hq : ∀ (w : World) (a : Option Addr) (n c n' c' : Nat), (binOp .eql 30 (.slice a n c) (.slice none n' c')).run Tryz.prog w = .ok (.bool a.isNone) w := fun w a n c n' c' => Lib.run_eql_slice_nil w _ _ a n c n' c' Tryz.underlying30
  go_enter Tryz.func145, Tryz.ntmps145
  go_wp2_with fail
  go_ret
  exact ⟨_, rfl, Ext.refl _, OwnL.nil⟩
 | some ad =>
  have hnews : ∀ j u, (encs vwc l)[j]? = some u → w.cell? (ad.add j) = some u := by
   intro j u hu
   have hj : j < (encs vwc l).length := (List.getElem?_eq_some_iff.1 hu).1
   have hj2 : j / 3 < l.length := by omega
   obtain ⟨b, o, hA, hb, hc⟩ := h3 (by omega)
   injection hA with hA
   subst hA
   have hg := encs_get (enc := vwc) (k := 3) (fun _ => rfl) l (j / 3) (j % 3) hj2 (by omega)
   rw [show j / 3 * 3 + j % 3 = j from by omega, hu] at hg
   have := hc (j / 3) hj2 (j % 3) u (by rw [show l[j / 3]! = l[j / 3] from getElem!_pos l (j / 3) hj2]; exact hg.symm)
   rw [show o + j / 3 * 3 + j % 3 = o + j from by omega] at this
   rwa [show (⟨b, o, none⟩ : Addr).add j = ⟨b, o + j, none⟩ from by unfold Addr.add; split <;> simp_all]
  have hone : ∀ u ∈ encs vwc l, u.oneCell' = true := by
   intro u hu
   obtain ⟨x, -, hx⟩ := List.mem_flatMap.1 hu
   simp [vwc] at hx
   (rcases hx with rfl | rfl | rfl) <;> rfl
  have hq : ∀ (w : World) (a : Option Addr) (n c n' c' : Nat), (binOp .eql 30 (.slice a n c) (.slice none n' c')).run Tryz.prog w = .ok (.bool a.isNone) w := fun w a n c n' c' => Lib.run_eql_slice_nil w _ _ a n c n' c' Tryz.underlying30
  have HN := Lib.hid hnews
  have HL := Lib.hid hlen
  clear h3 hnews hlen
  go_enter Tryz.func145, Tryz.ntmps145
  go_wp2_with (at_builtin; refine wpList_append_own _ rfl _ _ 30 rfl w.heap.size 110 i0 (.agg #[.int .i64 0, .int .i64 0, .bool false]) 3 24 Tryz.underlying30 hi hz0 hz1 hz2 rfl (by decide) _ _ _ rfl (World.ownsRow_made w #[] 0 (Nat.le_refl _) (Nat.zero_le _) (by simp)) ad l.length c (encs vwc l) rfl ?qc1 ?qc2 ?qc3 ?qc4 ?qc5 ?qc6 ?_)
  case qc1 => exact HL.out
  case qc2 =>
   intro j u hj
   exact Lib.cell?_alloc_some _ (HN.out j u hj)
  case qc3 => exact hone
  case qc4 => rw [Nat.zero_add]; exact hm
  case qc5 => rw [Nat.zero_add]; exact hb
  case qc6 => simp
  intro v' w1 hown hgrow hnil
  go_wp2
  go_ret
  refine ⟨v', rfl, ?_, ?_⟩
  ·exact ((Ext.refl w).alloc _).grown hgrow (by intro k hk; simp [Value.ownBlock] at hk; omega)
  ·unfold OwnL; simpa using hown

end Go.Proofs.YteojjbhadgkfgaaGreat

/- station.New: three gates, three views. -/
namespace Go.Proofs.YteojjbhadgkfgaaGreat
set_option linter.unusedSimpArgs false
set_option linter.unusedVariables false
set_option maxRecDepth 100000
open Go Go.RowKit Lb

/-- a gate as it lies in memory: its two slices are values -/
structure Gv where
 id : Int
 zone : Int
 seq : Int
 alone : Value
 ver : Int
 ids : Value
 left : Int
 untl : Int
instance : Inhabited Gv := ⟨⟨0, 0, 0, .slice none 0 0, 0, .slice none 0 0, 0, 0⟩⟩
def gvc (g : Gv) : Array Value := #[.int .i64 g.id, .int .i64 g.zone, .int .i64 g.seq, g.alone, .int .i64 g.ver, g.ids, .int .i64 g.left, .int .i64 g.untl]
theorem gvc_size (g : Gv) : (gvc g).size = 8 := rfl
theorem info_gt : (Tryz.prog.info? 52).map (fun i => (i.zero, i.size, i.bytes)) = some (some (.agg #[.int .i64 0, .int .i64 0, .int .i64 0, .slice none 0 0, .int .i64 0, .slice none 0 0, .int .i64 0, .int .i64 0]), 8, 96) := by kernel_rfl
theorem info_vw0 : (Tryz.prog.info? 110).map (fun i => (i.zero, i.size, i.bytes)) = some (some (.agg #[.int .i64 0, .int .i64 0, .bool false]), 3, 24) := by kernel_rfl
def newGate (i z : Int) : Gv := ⟨i, z, 0, .slice none 0 0, 0, .slice none 0 0, 9, 100⟩
def newGates : List Gv := [newGate 0 1, newGate 1 2, newGate 2 4]
def newViews : List Vw := [⟨0, 0, true⟩, ⟨0, 0, true⟩, ⟨0, 0, true⟩]
theorem newgate_one (i z : Int) : ∀ u ∈ encs gvc [newGate i z], u.oneCell' = true := by
 intro u hu
 simp [encs, gvc, newGate] at hu
 (rcases hu with rfl | rfl | rfl | rfl | rfl | rfl | rfl | rfl) <;> rfl
theorem view_one : ∀ u ∈ encs vwc [⟨0, 0, true⟩], u.oneCell' = true := by
 intro u hu
 simp [encs, vwc] at hu
 (rcases hu with rfl | rfl | rfl) <;> rfl

set_option maxRecDepth 100000 in
set_option maxHeartbeats 8000000 in
theorem station_New (w : World) :
  Calls Tryz.prog 20 #[] w fun e w' => ∃ gs vs, e = .returned (.agg #[.slice none 0 0, .slice none 0 0, .slice none 0 0, .int .i64 0, .slice none 0 0, gs, vs]) ∧ Ext w w' ∧ OwnL 52 8 gvc w.heap.size w' gs newGates ∧ OwnL 110 3 vwc w.heap.size w' vs newViews := by
 obtain ⟨i0, hi, hz0, hz1, hz2⟩ := info_parts info_gt
 obtain ⟨j0, ji, jz0, jz1, jz2⟩ := info_parts info_vw0
 go_enter Tryz.func20, Tryz.ntmps20
 go_wp2_with fail
 go_loopg [2, 3] 3 (fun gg _ s3 wr => ∃ (k : Nat) (A : Option Addr) (c : Nat), k ≤ 3 ∧ 3 - k ≤ gg ∧ s3 = .int .i64 k ∧ Aside (Ext w wr ∧ Row wr (w.heap.size + 1) #[.slice none 0 0, .slice none 0 0, .slice none 0 0, .int .i64 0, .slice none 0 0, .slice A k c, .slice none 0 0] ∧ (∃ cs, Row wr w.heap.size cs ∧ cs.size = 7)) ∧ Aside (OwnL 52 8 gvc (w.heap.size + 1 + 1) wr (.slice A k c) (newGates.take k)))
 case atStart => exact ⟨0, none, 0, by omega, by omega, rfl, ⟨((Ext.refl _).alloc _).alloc _, Row.newAt (by simp), ⟨_, (Row.newAt rfl).alloc, rfl⟩⟩, OwnL.nil⟩
 case round =>
  obtain ⟨k, A, c, hk, hg, rfl, HA, HB⟩ := hrel
  have h4 : k = 0 ∨ k = 1 ∨ k = 2 ∨ k = 3 := by omega
  have hq := HA.out.2.1.2.1
  have hf := HA.out.2.1.2.2
  have hlt := HA.out.2.1.1
  have HA2 := Lib.hid HA.out
  have HB2 := Lib.hid HB.out
  clear HA HB
  rcases h4 with rfl | rfl | rfl | rfl
  ·go_wp2_with fail
   go_region_law (refine step_append_rd (enc := gvc) (k := 8) _ rfl (.tmp 7) (.tmp 13) 29 rfl (w.heap.size + 1 + 1) 52 i0 (.agg #[.int .i64 0, .int .i64 0, .int .i64 0, .slice none 0 0, .int .i64 0, .slice none 0 0, .int .i64 0, .int .i64 0]) 96 Tryz.underlying29 hi hz0 hz1 hz2 rfl (by decide) gvc_size (.slice A 0 c) (newGates.take 0) (by simp [Act.eval, Act.put]) (HB2.out.drew.alloc _) (.slice (some ⟨wr.heap.size, 0, none⟩) 1 1) [newGate 0 1] (by simp [Act.eval, Act.put]) (RdL.lit (enc := gvc) (newGate 0 1) rfl rfl) (newgate_one 0 1) (by unfold maxLen; simp [newGates]) (by simp [newGates]) (by simp; omega) ?_; intro v' w' ho' hg' hn'; obtain ⟨A', c', rfl⟩ := ho'.form; have hr' := Row.grown (g := w.heap.size + 1) (HA2.out.2.1.drew.alloc) hg' (fun h => by have := (HB2.out.lt _ h.symm).1; omega); have HE' := Lib.hid (Ext.grown (HA2.out.1.drew.alloc _) hg' (fun j hj => by have := (HB2.out.lt j hj).1; omega)); have HC' := Lib.hid (HA2.out.2.2.imp (fun cs h => And.intro (Row.grown (g := w.heap.size) (h.1.drew.alloc) hg' (fun h => by have := (HB2.out.lt _ h.symm).1; omega)) h.2)); have HR' := Lib.hid hr'; have HO' := Lib.hid ho'; have hq' := hr'.2.1; have hf' := hr'.2.2; have hlt' := hr'.1; clear hr' hg' hn' ho')
   all_goals
    go_wp2_with fail
    go_roundg (3 - 1)
    case measure => omega
    case rel =>
     obtain ⟨cs, hcs, hcz⟩ := HC'.out
     refine ⟨1, A', c', by omega, by omega, by go_num, ⟨HE'.out.setCell (by simp) _, ?_, ⟨cs, Row.far (by simp) hcs, hcz⟩⟩, OwnL.setC (by simp) HO'.out⟩
     have := HR'.out.set_ (i := 5) (u := .slice A' 1 c')
     simpa [newGates] using this
  ·go_wp2_with fail
   go_region_law (refine step_append_rd (enc := gvc) (k := 8) _ rfl (.tmp 7) (.tmp 13) 29 rfl (w.heap.size + 1 + 1) 52 i0 (.agg #[.int .i64 0, .int .i64 0, .int .i64 0, .slice none 0 0, .int .i64 0, .slice none 0 0, .int .i64 0, .int .i64 0]) 96 Tryz.underlying29 hi hz0 hz1 hz2 rfl (by decide) gvc_size (.slice A 1 c) (newGates.take 1) (by simp [Act.eval, Act.put]) (HB2.out.drew.alloc _) (.slice (some ⟨wr.heap.size, 0, none⟩) 1 1) [newGate 1 2] (by simp [Act.eval, Act.put]) (RdL.lit (enc := gvc) (newGate 1 2) rfl rfl) (newgate_one 1 2) (by unfold maxLen; simp [newGates]) (by simp [newGates]) (by simp; omega) ?_; intro v' w' ho' hg' hn'; obtain ⟨A', c', rfl⟩ := ho'.form; have hr' := Row.grown (g := w.heap.size + 1) (HA2.out.2.1.drew.alloc) hg' (fun h => by have := (HB2.out.lt _ h.symm).1; omega); have HE' := Lib.hid (Ext.grown (HA2.out.1.drew.alloc _) hg' (fun j hj => by have := (HB2.out.lt j hj).1; omega)); have HC' := Lib.hid (HA2.out.2.2.imp (fun cs h => And.intro (Row.grown (g := w.heap.size) (h.1.drew.alloc) hg' (fun h => by have := (HB2.out.lt _ h.symm).1; omega)) h.2)); have HR' := Lib.hid hr'; have HO' := Lib.hid ho'; have hq' := hr'.2.1; have hf' := hr'.2.2; have hlt' := hr'.1; clear hr' hg' hn' ho')
   all_goals
    go_wp2_with fail
    go_roundg (3 - 2)
    case measure => omega
    case rel =>
     obtain ⟨cs, hcs, hcz⟩ := HC'.out
     refine ⟨2, A', c', by omega, by omega, by go_num, ⟨HE'.out.setCell (by simp) _, ?_, ⟨cs, Row.far (by simp) hcs, hcz⟩⟩, OwnL.setC (by simp) HO'.out⟩
     have := HR'.out.set_ (i := 5) (u := .slice A' 2 c')
     simpa [newGates] using this
  ·go_wp2_with fail
   go_region_law (refine step_append_rd (enc := gvc) (k := 8) _ rfl (.tmp 7) (.tmp 13) 29 rfl (w.heap.size + 1 + 1) 52 i0 (.agg #[.int .i64 0, .int .i64 0, .int .i64 0, .slice none 0 0, .int .i64 0, .slice none 0 0, .int .i64 0, .int .i64 0]) 96 Tryz.underlying29 hi hz0 hz1 hz2 rfl (by decide) gvc_size (.slice A 2 c) (newGates.take 2) (by simp [Act.eval, Act.put]) (HB2.out.drew.alloc _) (.slice (some ⟨wr.heap.size, 0, none⟩) 1 1) [newGate 2 4] (by simp [Act.eval, Act.put]) (RdL.lit (enc := gvc) (newGate 2 4) rfl rfl) (newgate_one 2 4) (by unfold maxLen; simp [newGates]) (by simp [newGates]) (by simp; omega) ?_; intro v' w' ho' hg' hn'; obtain ⟨A', c', rfl⟩ := ho'.form; have hr' := Row.grown (g := w.heap.size + 1) (HA2.out.2.1.drew.alloc) hg' (fun h => by have := (HB2.out.lt _ h.symm).1; omega); have HE' := Lib.hid (Ext.grown (HA2.out.1.drew.alloc _) hg' (fun j hj => by have := (HB2.out.lt j hj).1; omega)); have HC' := Lib.hid (HA2.out.2.2.imp (fun cs h => And.intro (Row.grown (g := w.heap.size) (h.1.drew.alloc) hg' (fun h => by have := (HB2.out.lt _ h.symm).1; omega)) h.2)); have HR' := Lib.hid hr'; have HO' := Lib.hid ho'; have hq' := hr'.2.1; have hf' := hr'.2.2; have hlt' := hr'.1; clear hr' hg' hn' ho')
   all_goals
    go_wp2_with fail
    go_roundg (3 - 3)
    case measure => omega
    case rel =>
     obtain ⟨cs, hcs, hcz⟩ := HC'.out
     refine ⟨3, A', c', by omega, by omega, by go_num, ⟨HE'.out.setCell (by simp) _, ?_, ⟨cs, Row.far (by simp) hcs, hcz⟩⟩, OwnL.setC (by simp) HO'.out⟩
     have := HR'.out.set_ (i := 5) (u := .slice A' 3 c')
     simpa [newGates] using this
  ·obtain ⟨cs0, hc0, hz0'⟩ := HA2.out.2.2
   have HC0 := Lib.hid hc0
   go_wp2_with fail
   go_loopg [17] 3 (fun gg s17 wq => ∃ (k : Nat) (A2 : Option Addr) (c2 : Nat), k ≤ 3 ∧ 3 - k ≤ gg ∧ s17 = .int .i64 k ∧ Aside (Ext w wq ∧ Row wq (w.heap.size + 1) #[.slice none 0 0, .slice none 0 0, .slice none 0 0, .int .i64 0, .slice none 0 0, .slice A 3 c, .slice A2 k c2] ∧ Row wq w.heap.size cs0) ∧ Aside (OwnL 52 8 gvc (w.heap.size + 1 + 1) wq (.slice A 3 c) newGates ∧ OwnL 110 3 vwc (w.heap.size + 1 + 1) wq (.slice A2 k c2) (newViews.take k) ∧ (∀ q, (Value.slice A2 k c2).ownBlock = some q → (Value.slice A 3 c).ownBlock ≠ some q)))
   case atStart => exact ⟨0, none, 0, by omega, by omega, rfl, ⟨HA2.out.1, HA2.out.2.1, HC0.out⟩, HB2.out, OwnL.nil, fun q h => by cases h⟩
   case round =>
    obtain ⟨k, A2, c2, hk, hg, rfl, HA, HB⟩ := hrel
    have hq := HA.out.2.1.2.1
    have hf := HA.out.2.1.2.2
    have hlt := HA.out.2.1.1
    have hq0 := HA.out.2.2.2.1
    have hf0 := HA.out.2.2.2.2
    have hlt0 := HA.out.2.2.1
    have HA3 := Lib.hid HA.out
    have HB3 := Lib.hid HB.out
    clear HA HB HA2 HB2
    by_cases hlt3 : k < 3
    ·have hlt' : (k : Int) < 3 := by omega
     have hw2 := HA3.out.1.size
     go_wp2_with (at_builtin; refine wpList_append_rd (enc := vwc) (k := 3) _ rfl _ _ 30 rfl (w.heap.size + 1 + 1) 110 j0 (.agg #[.int .i64 0, .int .i64 0, .bool false]) 24 Tryz.underlying30 ji jz0 jz1 jz2 rfl (by decide) vwc_size _ (newViews.take k) rfl (HB3.out.2.1.alloc _) _ [⟨0, 0, true⟩] rfl (RdL.lit (enc := vwc) ⟨0, 0, true⟩ ?qa0 ?qa1) view_one ?qa3 ?qa4 ?qa5 ?_)
     case qa0 => rfl
     case qa1 => rfl
     case qa3 => unfold maxLen; simp; omega
     case qa4 => simp; omega
     case qa5 => simp only [World.size_alloc]; omega
     intro v' w' ho' hg' hn'
     have ht : newViews.take k ++ [⟨0, 0, true⟩] = newViews.take (k + 1) := by
      have h3 : k = 0 ∨ k = 1 ∨ k = 2 := by omega
      rcases h3 with rfl | rfl | rfl <;> rfl
     have hl : (newViews.take (k + 1)).length = k + 1 := by rw [List.length_take]; simp [newViews]; omega
     rw [ht] at ho'
     obtain ⟨A', c', rfl⟩ := ho'.form
     rw [hl] at ho' hn' ⊢
     have hfar : ∀ b, b < w.heap.size + 1 + 1 → some b ≠ (Value.slice A2 k c2).ownBlock := fun b hb h => by
      have := (HB3.out.2.1.lt _ h.symm).1
      omega
     have hE' : Ext w w' := Ext.grown (HA3.out.1.alloc _) hg' (fun j hj => by have := (HB3.out.2.1.lt j hj).1; omega)
     have hr' := Row.grown (g := w.heap.size + 1) (HA3.out.2.1.alloc) hg' (hfar _ (by omega))
     have hr0 := Row.grown (g := w.heap.size) (HA3.out.2.2.alloc) hg' (hfar _ (by omega))
     have hgk : OwnL 52 8 gvc (w.heap.size + 1 + 1) w' (.slice A 3 c) newGates := (HB3.out.1.alloc _).kept hg' (.inr (fun h => by
      cases hA2 : (Value.slice A2 k c2).ownBlock with
      | none =>
       rw [hA2] at h
       have hz := HB3.out.1.2
       rcases hz with ⟨hz, hz0⟩ | ⟨gg, cap, cur, hz, -⟩
       ·simp [newGates] at hz0
       ·rw [hz] at h; cases h
      | some q => exact HB3.out.2.2 q hA2 (h.trans hA2)))
     have hne : ∀ q, (Value.slice A' (k + 1) c').ownBlock = some q → (Value.slice A 3 c).ownBlock ≠ some q := by
      intro q hq2 hq3
      rcases hn' with h | h
      ·exact HB3.out.2.2 q (by rw [← h]; exact hq2) hq3
      ·rw [h] at hq2
       injection hq2 with hq2
       have := (HB3.out.1.lt _ hq3).2
       (try simp only [World.size_alloc] at hq2)
       (try simp only [World.size_alloc] at this)
       omega
     have HE' := Lib.hid hE'
     have HR' := Lib.hid hr'
     have HR0 := Lib.hid hr0
     have HO' := Lib.hid (And.intro hgk (And.intro ho' hne))
     have hq' := hr'.2.1
     have hf' := hr'.2.2
     have hlt2 := hr'.1
     have hlt0' := hr0.1
     clear hE' hr' hr0 hgk hne hg' hn' ho' ht hl hfar
     go_wp2_with fail
     go_roundg (3 - (k + 1))
     case measure => omega
     case rel =>
      refine ⟨k + 1, A', c', by omega, by omega, by go_num, ⟨HE'.out.setCell (by simp) _, ?_, Row.far (by simp) HR0.out⟩, OwnL.setC (by simp) HO'.out.1, OwnL.setC (by simp) HO'.out.2.1, HO'.out.2.2⟩
      have := HR'.out.set_ (i := 6) (u := .slice A' (k + 1) c')
      simpa using this
    ·have hk3 : k = 3 := by omega
     subst hk3
     match cs0, hz0' with
     | ⟨[z0, z1, z2, z3, z4, z5, z6]⟩, _ =>
      go_wp2_with fail
      refine bodyPost_ret (v := .agg #[.slice none 0 0, .slice none 0 0, .slice none 0 0, .int .i64 0, .slice none 0 0, .slice A 3 c, .slice A2 3 c2]) (by simp [results, Tryz.results20, go_sem, *]) rfl ⟨_, _, rfl, ?_, ?_, ?_⟩
      ·repeat (refine Ext.setCell ?_ (Nat.le_refl _) _)
       exact HA3.out.1
      ·refine OwnL.lower (base := w.heap.size + 1 + 1) ?_ (by omega)
       repeat (refine OwnL.setC (by simp <;> omega) ?_)
       exact HB3.out.1
      ·refine OwnL.lower (base := w.heap.size + 1 + 1) ?_ (by omega)
       repeat (refine OwnL.setC (by simp <;> omega) ?_)
       exact HB3.out.2.1
end Go.Proofs.YteojjbhadgkfgaaGreat

/- lead.Raw, Win, Turn, Set. -/
namespace Go.Proofs.YteojjbhadgkfgaaGreat
set_option linter.unusedSimpArgs false
set_option linter.unusedVariables false
set_option maxRecDepth 100000
open Go Go.RowKit Lb

end Go.Proofs.YteojjbhadgkfgaaGreat

/- The references on views: CheckViews, WhoOf, SameViews; viewsAre. -/
namespace Go.Proofs.YteojjbhadgkfgaaGreat
set_option linter.unusedSimpArgs false
set_option linter.unusedVariables false
set_option maxRecDepth 100000
open Go Go.RowKit Lb

theorem neq_vw (a b : Int) (u : Bool) (a' b' : Int) (u' : Bool) (W : World) :
  (binOp .neq 110 (.agg #[.int .i64 a, .int .i64 b, .bool u]) (.agg #[.int .i64 a', .int .i64 b', .bool u'])).run Tryz.prog W = .ok (.bool (!decide ((⟨a, b, u⟩ : Vw) = ⟨a', b', u'⟩))) W := by
 have hst : Tryz.prog.stoodInHeld 110 = false := by kernel_rfl
 simp [go_sem, hst]
 repeat' split
 all_goals simp_all

set_option maxHeartbeats 1000000 in
theorem ref_SameViews (l m : List Vw) (v u : Value) (w : World) (hr : RdL 3 vwc w v l) (hs : RdL 3 vwc w u m) :
  Calls Tryz.prog 27 #[v, u] w fun e w' => e = .returned (.bool (l == m)) ∧ Ext w w' := by
 obtain ⟨A, c, rfl, hmc, hmm⟩ := hr.form
 obtain ⟨A2, c2, rfl, -, -⟩ := hs.form
 have hm : l.length ≤ 9223372036854775807 := by unfold maxLen at hmm; omega
 have HRd := Lib.hid hr
 have HSd := Lib.hid hs
 clear hr hmm hmc hs
 by_cases hl : l.length = m.length
 ·rw [← hl] at HSd ⊢
  have HL := Lib.hid hl
  generalize hR : (l == m) = r
  have HR := Lib.hid hR
  clear hR hl
  go_enter Tryz.func27, Tryz.ntmps27
  go_wp2_with fail
  go_loopg [4, 5] l.length (fun gg _ s5 wr => ∃ k : Nat, k ≤ l.length ∧ l.length - k ≤ gg ∧ s5 = .int .i64 k ∧ Aside (Ext w wr) ∧ Aside ((l.drop k == m.drop k) = r))
  case atStart => exact ⟨0, by omega, by omega, rfl, Ext.refl _, HR.out⟩
  case round =>
   obtain ⟨k, hk, hg, rfl, HE, HA⟩ := hrel
   by_cases hlt : k < l.length
   ·have hlt' : (k : Int) < (l.length : Int) := by omega
    have hltm : k < m.length := by have := HL.out; omega
    obtain ⟨b, o, rfl, hb, c0, c1, c2'⟩ := (HRd.out.ext HE.out).vw_at rfl hlt
    obtain ⟨b2, o2, rfl, hb2, d0, d1, d2⟩ := (HSd.out.ext HE.out).vw_at rfl hltm
    have hA := HA.out
    rw [List.drop_eq_getElem_cons hlt, List.drop_eq_getElem_cons hltm, List.cons_beq_cons] at hA
    generalize l[k] = x at *
    generalize m[k] = y at *
    obtain ⟨x0, x1, x2⟩ := x
    obtain ⟨y0, y1, y2⟩ := y
    simp only at c0 c1 c2' d0 d1 d2
    have hn := neq_vw x0 x1 x2 y0 y1 y2
    by_cases hx : (⟨x0, x1, x2⟩ : Vw) = ⟨y0, y1, y2⟩
    ·rw [decide_eq_true hx] at hn
     have hA2 : (l.drop (k + 1) == m.drop (k + 1)) = r := by rw [← hA]; simp [hx]
     have HA2 := Lib.hid hA2
     clear hA hA2 HA hx
     go_wp2_with fail
     go_quiet (fail)
     go_wp2_with fail
     go_roundg (l.length - (k + 1))
     case measure => omega
     case rel => exact ⟨k + 1, by omega, by omega, by go_num, HE.out.drewN _, HA2.out⟩
    ·rw [decide_eq_false hx] at hn
     have hA2 : r = false := by rw [← hA, beq_eq_false_iff_ne.2 hx]; rfl
     have HA2 := Lib.hid hA2
     clear hA hA2 HA hx
     go_wp2_with fail
     go_quiet (fail)
     go_wp2_with fail
     go_ret
     exact ⟨ret_bool (by rw [HA2.out]), HE.out.drewN _⟩
   ·have hkl : k = l.length := by omega
    have hge : ¬ (k : Int) < (l.length : Int) := by omega
    have hA := HA.out
    rw [hkl, List.drop_length, HL.out, List.drop_length] at hA
    have HA2 := Lib.hid hA
    clear hA HA hkl
    go_wp2_with fail
    go_ret
    exact ⟨ret_bool (by rw [← HA2.out]; rfl), HE.out⟩
 ·have hl1 : ((l.length : Int) != (m.length : Int)) = true := by
   have : (l.length : Int) ≠ (m.length : Int) := by omega
   simpa using this
  have hl2 : (l == m) = false := by
   rw [beq_eq_false_iff_ne]
   rintro rfl
   exact hl rfl
  rw [hl2]
  clear hl HRd HSd
  go_enter Tryz.func27, Tryz.ntmps27
  go_wp2_with fail
  go_ret
  exact ⟨ret_bool rfl, Ext.refl _⟩

end Go.Proofs.YteojjbhadgkfgaaGreat

/- The references' CheckViews. -/
namespace Go.Proofs.YteojjbhadgkfgaaGreat
set_option linter.unusedSimpArgs false
set_option linter.unusedVariables false
set_option maxRecDepth 100000
open Go Go.RowKit Lb

end Go.Proofs.YteojjbhadgkfgaaGreat

/- The references' WinOf and SetOf. -/
namespace Go.Proofs.YteojjbhadgkfgaaGreat
set_option linter.unusedSimpArgs false
set_option linter.unusedVariables false
set_option maxRecDepth 100000
open Go Go.RowKit Lb

end Go.Proofs.YteojjbhadgkfgaaGreat

/- The laws' leadBegun. -/
namespace Go.Proofs.YteojjbhadgkfgaaGreat
set_option linter.unusedSimpArgs false
set_option linter.unusedVariables false
set_option maxRecDepth 100000
open Go Go.RowKit Lb

end Go.Proofs.YteojjbhadgkfgaaGreat
