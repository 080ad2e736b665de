/- Mw: parts of the proofs, laid together. -/
import Derived.Lib.SliceRun
import Derived.Lib.Walk
import Derived.BigRegion
import Derived.Test.YteojjbhadgkfgaaDoorMa
import Derived.Test.YteojjbhadgkfgaaDoorMo
/- Views of who leads: the plain side: what is right, who leads, who wins, who is up; laws of these. -/
namespace Lb
set_option linter.unusedVariables false
set_option maxRecDepth 100000
set_option linter.unusedSimpArgs false

def ckView (v : Vw) : Int :=
 if within v.epoch 0 99 = false ∨ within v.leader 0 1 = false then 3 else if v.epoch = 0 ∧ v.leader ≠ 0 then 4 else 0
def clash (v x : Vw) : Bool := x.epoch == v.epoch && x.leader != v.leader
/-- do two of one epoch have not one leader? pre: those ahead -/
def clashes : List Vw → List Vw → Bool
 | _, [] => false
 | pre, v :: l => pre.any (clash v) || clashes (pre ++ [v]) l
theorem clashes_cons (pre : List Vw) (v : Vw) (l : List Vw) : clashes pre (v :: l) = (pre.any (clash v) || clashes (pre ++ [v]) l) := rfl
def ckViews (l : List Vw) : Int :=
 if l.length ≠ 3 then 1 else if eachE ckView l ≠ 0 then eachE ckView l else if clashes [] l = true then 4 else 0
def countV (p : Vw → Bool) : List Vw → Int
 | [] => 0
 | v :: l => (if p v = true then 1 else 0) + countV p l
theorem countV_cons (p : Vw → Bool) (v : Vw) (l : List Vw) : countV p (v :: l) = (if p v = true then 1 else 0) + countV p l := rfl
def topV : Int → List Vw → Int
 | m, [] => m
 | m, v :: l => topV (max m v.epoch) l
def atTop (top : Int) (v : Vw) : Bool := v.epoch == top
def upTop (top : Int) (v : Vw) : Bool := v.epoch == top && v.up
/-- of three views: the leader of the first one of the greatest epoch -/
def whoTop (l : List Vw) : Int := match l.find? (atTop (topV 0 l)) with
 | some v => v.leader
 | none => 0
def isUp (l : List Vw) (i : Int) : Bool := match l[i.toNat]? with
 | some v => v.up
 | none => false
def leads (l : List Vw) : Bool := decide (0 < topV 0 l) && decide (3 < 2 * countV (upTop (topV 0 l)) l) && isUp l (whoTop l)
def whoV (l : List Vw) : Int × Bool := if leads l = true then (whoTop l, true) else (0, false)
/- the references' way -/
def stepE (e : Int) : Bool × Int × Int → List Vw → Bool × Int × Int
 | s, [] => s
 | s, v :: l => stepE e (if v.epoch = e then (true, if v.up = true then s.2.1 + 1 else s.2.1, v.leader) else s) l
theorem stepE_cons (e : Int) (s : Bool × Int × Int) (v : Vw) (l : List Vw) : stepE e s (v :: l) = stepE e (if v.epoch = e then (true, if v.up = true then s.2.1 + 1 else s.2.1, v.leader) else s) l := rfl
def whoR (l : List Vw) : Nat → Int × Bool
 | 0 => (0, false)
 | e + 1 => if (stepE ((e : Int) + 1) (false, 0, 0) l).1 = true then (if 2 ≤ (stepE ((e : Int) + 1) (false, 0, 0) l).2.1 ∧ isUp l (stepE ((e : Int) + 1) (false, 0, 0) l).2.2 = true then ((stepE ((e : Int) + 1) (false, 0, 0) l).2.2, true) else (0, false)) else whoR l e

theorem ckView_ok (v : Vw) : ckView v = 0 ↔ 0 ≤ v.epoch ∧ v.epoch ≤ 99 ∧ 0 ≤ v.leader ∧ v.leader ≤ 1 ∧ (v.epoch = 0 → v.leader = 0) := by
 unfold ckView
 by_cases h : within v.epoch 0 99 = false ∨ within v.leader 0 1 = false
 ·rw [if_pos h]
  simp [within] at h
  constructor
  ·intro h; simp at h
  ·omega
 ·rw [if_neg h]
  simp [within] at h
  by_cases h2 : v.epoch = 0 ∧ v.leader ≠ 0
  ·rw [if_pos h2]
   constructor
   ·intro h; simp at h
   ·rintro ⟨-, -, -, -, h3⟩; exact absurd (h3 h2.1) h2.2
  ·rw [if_neg h2]
   simp only [true_iff]
   refine ⟨by omega, by omega, by omega, by omega, fun h3 => ?_⟩
   apply Classical.byContradiction
   intro h4
   exact h2 ⟨h3, h4⟩
theorem clashes_ok (l pre : List Vw) (hp : ∀ v ∈ pre, ∀ x ∈ pre, x.epoch = v.epoch → x.leader = v.leader) : clashes pre l = false ↔ ∀ v ∈ pre ++ l, ∀ x ∈ pre ++ l, x.epoch = v.epoch → x.leader = v.leader := by
 induction l generalizing pre with
 | nil => simpa [clashes] using hp
 | cons v l ih =>
  rw [clashes_cons, Bool.or_eq_false_iff, List.any_eq_false]
  have hcl : ∀ x, clash v x = true ↔ x.epoch = v.epoch ∧ x.leader ≠ v.leader := by intro x; simp [clash]
  constructor
  ·rintro ⟨h1, h2⟩
   have hp2 : ∀ a ∈ pre ++ [v], ∀ x ∈ pre ++ [v], x.epoch = a.epoch → x.leader = a.leader := by
    intro a ha x hx hxa
    simp only [List.mem_append, List.mem_singleton] at ha hx
    rcases ha with ha | rfl <;> rcases hx with hx | rfl
    ·exact hp a ha x hx hxa
    ·have := h1 a ha
     rw [hcl] at this
     apply Classical.byContradiction
     intro h
     exact this ⟨hxa.symm, fun e => h e.symm⟩
    ·have := h1 x hx
     rw [hcl] at this
     apply Classical.byContradiction
     intro h
     exact this ⟨hxa, h⟩
    ·rfl
   have := (ih (pre ++ [v]) hp2).1 h2
   simpa using this
  ·intro h
   have h' : ∀ a ∈ (pre ++ [v]) ++ l, ∀ x ∈ (pre ++ [v]) ++ l, x.epoch = a.epoch → x.leader = a.leader := by simpa using h
   refine ⟨fun x hx => ?_, (ih (pre ++ [v]) (fun a ha x hx => h' a (by simp only [List.mem_append] at ha ⊢; exact .inl ha) x (by simp only [List.mem_append] at hx ⊢; exact .inl hx))).2 h'⟩
   rw [hcl]
   rintro ⟨e1, e2⟩
   exact e2 (h v (by simp) x (by simp [hx]) e1)
def RightV (l : List Vw) : Prop := l.length = 3 ∧ (∀ v ∈ l, ckView v = 0) ∧ (∀ v ∈ l, ∀ x ∈ l, x.epoch = v.epoch → x.leader = v.leader)
theorem rightV_iff (l : List Vw) : ckViews l = 0 ↔ RightV l := by
 unfold ckViews RightV
 have hc := clashes_ok l [] (by simp)
 simp only [List.nil_append] at hc
 by_cases h3 : l.length = 3
 ·rw [if_neg (by simpa using h3)]
  by_cases he : eachE ckView l = 0
  ·rw [if_neg (by simpa using he)]
   have he2 := eachE_ok.1 he
   cases hcl : clashes [] l with
   | true =>
    simp only [if_true]
    constructor
    ·intro h; simp at h
    ·rintro ⟨-, -, h⟩
     rw [hc.2 h] at hcl
     cases hcl
   | false => exact ⟨fun _ => ⟨h3, he2, hc.1 hcl⟩, fun _ => rfl⟩
  ·rw [if_pos he]
   constructor
   ·intro h; exact absurd h he
   ·rintro ⟨-, h, -⟩; exact absurd (eachE_ok.2 h) he
 ·rw [if_pos h3]
  constructor
  ·intro h; simp at h
  ·rintro ⟨h, -, -⟩; exact absurd h h3

theorem topV_ge (m : Int) (l : List Vw) : m ≤ topV m l := by
 induction l generalizing m with
 | nil => exact Int.le_refl _
 | cons v l ih => have := ih (max m v.epoch); unfold topV; omega
theorem le_topV (m : Int) (l : List Vw) : ∀ v ∈ l, v.epoch ≤ topV m l := by
 induction l generalizing m with
 | nil => simp
 | cons x l ih =>
  intro v hv
  unfold topV
  rcases List.mem_cons.1 hv with rfl | hv
  ·have := topV_ge (max m v.epoch) l; omega
  ·exact ih _ v hv
theorem topV_le (m M : Int) (l : List Vw) (hm : m ≤ M) (h : ∀ v ∈ l, v.epoch ≤ M) : topV m l ≤ M := by
 induction l generalizing m with
 | nil => exact hm
 | cons x l ih =>
  unfold topV
  have := h x (by simp)
  exact ih _ (by omega) (fun v hv => h v (by simp [hv]))
theorem topV_eq {l : List Vw} {T : Int} (h0 : 0 ≤ T) (h : ∀ v ∈ l, v.epoch ≤ T) (he : ∃ v ∈ l, v.epoch = T) : topV 0 l = T := by
 obtain ⟨v, hv, rfl⟩ := he
 have := le_topV 0 l v hv
 have := topV_le 0 _ l h0 h
 omega
theorem topV_mem (m : Int) (l : List Vw) : topV m l = m ∨ ∃ v ∈ l, v.epoch = topV m l := by
 induction l generalizing m with
 | nil => exact .inl rfl
 | cons x l ih =>
  unfold topV
  rcases ih (max m x.epoch) with h | ⟨v, hv, h⟩
  ·rw [h]
   by_cases hx : m ≤ x.epoch
   ·exact .inr ⟨x, by simp, by omega⟩
   ·exact .inl (by omega)
  ·exact .inr ⟨v, by simp [hv], h⟩
theorem whoTop_eq {l : List Vw} {L : Int} (he : ∃ v ∈ l, v.epoch = topV 0 l) (hL : ∀ v ∈ l, v.epoch = topV 0 l → v.leader = L) : whoTop l = L := by
 unfold whoTop
 cases hf : l.find? (atTop (topV 0 l)) with
 | none =>
  obtain ⟨v, hv, h⟩ := he
  rw [List.find?_eq_none] at hf
  have := hf v hv
  simp [atTop, h] at this
 | some v =>
  have h1 := List.find?_some hf
  have h2 := List.mem_of_find?_eq_some hf
  simp only [atTop, beq_iff_eq] at h1
  exact hL v h2 h1
theorem stepE_fst (e : Int) (s : Bool × Int × Int) (l : List Vw) : (stepE e s l).1 = (s.1 || l.any (atTop e)) := by
 induction l generalizing s with
 | nil => simp [stepE]
 | cons v l ih =>
  rw [stepE_cons, ih]
  by_cases h : v.epoch = e
  ·simp [h, atTop]
  ·have hb : (v.epoch == e) = false := by simpa using h
   simp [h, atTop, hb]
theorem stepE_n (e : Int) (s : Bool × Int × Int) (l : List Vw) : (stepE e s l).2.1 = s.2.1 + countV (upTop e) l := by
 induction l generalizing s with
 | nil => simp [stepE, countV]
 | cons v l ih =>
  rw [stepE_cons, ih, countV_cons]
  by_cases h : v.epoch = e
  ·cases hu : v.up <;> simp [h, upTop, hu] <;> omega
  ·simp [h, upTop]
theorem stepE_who (e L : Int) (s : Bool × Int × Int) (l : List Vw) (hL : ∀ v ∈ l, v.epoch = e → v.leader = L) : (stepE e s l).2.2 = if l.any (atTop e) = true then L else s.2.2 := by
 induction l generalizing s with
 | nil => simp [stepE]
 | cons v l ih =>
  rw [stepE_cons, ih _ (fun x hx => hL x (by simp [hx]))]
  by_cases h : v.epoch = e
  ·have := hL v (by simp) h
   simp [h, atTop, this]
  ·simp [h, atTop]
theorem whoR_eq {l : List Vw} (hr : RightV l) : ∀ E : Nat, (∀ v ∈ l, v.epoch ≤ (E : Int)) → whoR l E = whoV l
 | 0, h => by
  have ht : topV 0 l = 0 := by
   have := topV_le 0 0 l (Int.le_refl _) (by simpa using h)
   have := topV_ge 0 l
   omega
  simp [whoR, whoV, leads, ht]
 | E + 1, h => by
  unfold whoR
  rw [stepE_fst, Bool.false_or]
  by_cases ha : l.any (atTop ((E : Int) + 1)) = true
  ·rw [if_pos ha]
   obtain ⟨v, hv, hve⟩ := List.any_eq_true.1 ha
   simp only [atTop, beq_iff_eq] at hve
   have ht : topV 0 l = (E : Int) + 1 := topV_eq (by omega) (fun x hx => by have := h x hx; push_cast at this; omega) ⟨v, hv, hve⟩
   have hw : whoTop l = v.leader := whoTop_eq ⟨v, hv, by rw [ht]; exact hve⟩ (fun x hx hxe => hr.2.2 v hv x hx (by rw [hxe, ht, hve]))
   rw [stepE_n, stepE_who _ v.leader _ _ (fun x hx hxe => hr.2.2 v hv x hx (by rw [hxe, hve])), if_pos ha]
   unfold whoV leads
   rw [ht, hw]
   by_cases hc : 2 ≤ 0 + countV (upTop ((E : Int) + 1)) l ∧ isUp l v.leader = true
   ·rw [if_pos hc, if_pos]
    rw [Bool.and_eq_true, Bool.and_eq_true, decide_eq_true_eq, decide_eq_true_eq]
    exact ⟨⟨by omega, by omega⟩, hc.2⟩
   ·rw [if_neg hc, if_neg]
    rw [Bool.and_eq_true, Bool.and_eq_true, decide_eq_true_eq, decide_eq_true_eq]
    rintro ⟨⟨-, h2⟩, h3⟩
    exact hc ⟨by omega, h3⟩
  ·rw [if_neg ha]
   refine whoR_eq hr E (fun x hx => ?_)
   have h1 := h x hx
   have h2 : ¬ x.epoch = (E : Int) + 1 := by
    intro e
    exact ha (List.any_eq_true.2 ⟨x, hx, by simp [atTop, e]⟩)
   push_cast at h1
   omega
theorem who_eq {l : List Vw} (h : ckViews l = 0) : whoR l 99 = whoV l := by
 have hr := (rightV_iff l).1 h
 exact whoR_eq hr 99 (fun v hv => ((ckView_ok v).1 (hr.2.1 v hv)).2.1)
end Lb

/- Views: laws of winning, and of being up or not. -/
namespace Lb
set_option linter.unusedVariables false
set_option maxRecDepth 100000
set_option linter.unusedSimpArgs false

theorem countV_nonneg (p : Vw → Bool) (l : List Vw) : 0 ≤ countV p l := by
 induction l with
 | nil => exact Int.le_refl _
 | cons x l ih => rw [countV_cons]; split <;> omega
/-- two lists of views that are alike but for who is up -/
def Alike (l m : List Vw) : Prop := l.length = m.length ∧ ∀ i (h1 : i < l.length) (h2 : i < m.length), l[i].epoch = m[i].epoch ∧ l[i].leader = m[i].leader
theorem Alike.mem {l m : List Vw} (h : Alike l m) {v : Vw} (hv : v ∈ l) : ∃ x ∈ m, v.epoch = x.epoch ∧ v.leader = x.leader := by
 obtain ⟨i, hi, rfl⟩ := List.mem_iff_getElem.1 hv
 have hi2 : i < m.length := by rw [← h.1]; exact hi
 exact ⟨m[i], List.getElem_mem hi2, h.2 i hi hi2⟩
theorem Alike.symm {l m : List Vw} (h : Alike l m) : Alike m l := ⟨h.1.symm, fun i h1 h2 => ⟨(h.2 i h2 h1).1.symm, (h.2 i h2 h1).2.symm⟩⟩
theorem Alike.right {l m : List Vw} (h : Alike l m) (hr : RightV m) : RightV l := by
 refine ⟨h.1.trans hr.1, fun v hv => ?_, fun v hv x hx hxe => ?_⟩
 ·obtain ⟨y, hy, e1, e2⟩ := h.mem hv
  have := (ckView_ok y).1 (hr.2.1 y hy)
  rw [ckView_ok, e1, e2]
  exact this
 ·obtain ⟨y, hy, e1, e2⟩ := h.mem hv
  obtain ⟨z, hz, e3, e4⟩ := h.mem hx
  rw [e2, e4]
  exact hr.2.2 y hy z hz (by rw [← e1, ← e3]; exact hxe)
theorem Alike.top {l m : List Vw} (h : Alike l m) : topV 0 l = topV 0 m := by
 have h1 := topV_le 0 (topV 0 m) l (topV_ge 0 m) (fun v hv => by
  obtain ⟨y, hy, e1, -⟩ := h.mem hv
  rw [e1]; exact le_topV 0 m y hy)
 have h2 := topV_le 0 (topV 0 l) m (topV_ge 0 l) (fun v hv => by
  obtain ⟨y, hy, e1, -⟩ := h.symm.mem hv
  rw [e1]; exact le_topV 0 l y hy)
 omega
theorem Alike.who {l m : List Vw} {L : Int} (h : Alike l m) (he : ∃ v ∈ m, v.epoch = topV 0 m) (hL : ∀ v ∈ m, v.epoch = topV 0 m → v.leader = L) : whoTop l = L := by
 obtain ⟨v, hv, hve⟩ := he
 obtain ⟨x, hx, e1, e2⟩ := h.symm.mem hv
 refine whoTop_eq ⟨x, hx, by rw [h.top, ← e1]; exact hve⟩ (fun y hy hye => ?_)
 obtain ⟨z, hz, e3, e4⟩ := h.mem hy
 rw [e4]
 exact hL z hz (by rw [← e3, ← h.top]; exact hye)
end Lb

/- Views of who leads: the closures over one view. -/
namespace Go.Proofs.YteojjbhadgkfgaaDoor
set_option linter.unusedSimpArgs false
set_option linter.unusedVariables false
set_option maxRecDepth 100000
open Go Go.RowKit Lb

theorem lead_within (n a b : Int) (w : World) :
  Calls Tryd.prog 68 #[.int .i64 n, .int .i64 a, .int .i64 b] w fun e w' => e = .returned (.bool (within n a b)) ∧ w = w' := by
 go_enter Tryd.func68, Tryd.ntmps68
 go_wp2
 all_goals
  go_ret
  exact ⟨ret_bool (by simp [within, *] <;> omega), rfl⟩

theorem lead_Check1 (x v : Vw) (g : Nat) (w : World) (hr : Row w g (vwc v)) :
  Calls Tryd.prog 70 #[.agg (vwc x), .pointer (some ⟨g, 0, none⟩)] w fun e w' => e = .returned (.bool (clash v x)) ∧ Ext w w' := by
 obtain ⟨x0, x1, x2⟩ := x
 obtain ⟨v0, v1, v2⟩ := v
 unfold vwc at hr ⊢
 apply Row.use hr; intro q f l R
 clear hr
 go_enter Tryd.func70, Tryd.ntmps70
 go_wp2
 all_goals
  go_ret
  refine ⟨ret_bool ?_, ?_⟩
  ·simp_all [clash]
  ·exact extA
theorem lead_Who1 (x : Vw) (top : Int) (g : Nat) (w : World) (hr : Row w g #[.int .i64 top]) :
  Calls Tryd.prog 55 #[.agg (vwc x), .pointer (some ⟨g, 0, none⟩)] w fun e w' => e = .returned (.bool (atTop top x)) ∧ Ext w w' := by
 obtain ⟨x0, x1, x2⟩ := x
 unfold vwc
 apply Row.use hr; intro q f l R
 clear hr
 go_enter Tryd.func55, Tryd.ntmps55
 go_wp2
 all_goals
  go_ret
  refine ⟨ret_bool ?_, ?_⟩
  ·simp_all [atTop]
  ·exact extA
theorem lead_Who2 (x : Vw) (top : Int) (g : Nat) (w : World) (hr : Row w g #[.int .i64 top]) :
  Calls Tryd.prog 57 #[.agg (vwc x), .pointer (some ⟨g, 0, none⟩)] w fun e w' => e = .returned (.bool (upTop top x)) ∧ Ext w w' := by
 obtain ⟨x0, x1, x2⟩ := x
 unfold vwc
 apply Row.use hr; intro q f l R
 clear hr
 go_enter Tryd.func57, Tryd.ntmps57
 go_wp2
 all_goals
  go_ret
  refine ⟨ret_bool ?_, ?_⟩
  ·simp_all [upTop]
  ·exact extA
end Go.Proofs.YteojjbhadgkfgaaDoor

/- slices.IndexFunc and ContainsFunc over views, at whatever predicate. -/
namespace Go.Proofs.YteojjbhadgkfgaaDoor
set_option linter.unusedSimpArgs false
set_option linter.unusedVariables false
set_option maxRecDepth 100000
open Go Go.RowKit Lb

set_option maxHeartbeats 2000000 in
theorem IndexFunc_view (p : Vw → Bool) (g : Nat) (lb : Array Value) (eg : ∀ args w, (callFunc g args).run Tryd.prog w = .ok (.enter g args) w) (l : List Vw) (v : Value) (w : World) (hr : RdL 3 vwc w v l)
  (hp : ∀ W x, Ext w W → Calls Tryd.prog g (#[.agg (vwc x)] ++ lb) W fun e w' => e = .returned (.bool (p x)) ∧ Ext W w') :
  Calls Tryd.prog 54 #[v, .func (.func g) #[] lb] w fun e w' => e = .returned (.int .i64 (ixBy p l)) ∧ Ext w w' := by
 obtain ⟨A, c, rfl, h1, h2, h3⟩ := hr
 have hm : l.length ≤ 9223372036854775807 := by unfold maxLen at h2; omega
 have H3 := Lib.hid h3
 have HP := Lib.hid hp
 clear h3 h1 h2 hp
 go_enter Tryd.func54, Tryd.ntmps54
 go_wp2
 go_loopg [4, 5, 8] l.length (fun gg _ _ s8 wr => ∃ k : Nat, k ≤ l.length ∧ l.length - k ≤ gg ∧ s8 = .int .i64 k ∧ Aside (Ext w wr) ∧ Aside (∀ j (hj : j < k), (h : j < l.length) → p l[j] = false))
 case atStart => exact ⟨0, Nat.zero_le _, by omega, rfl, Ext.refl _, fun j hj => by omega⟩
 case round =>
  obtain ⟨k, hk, hg, rfl, HE, HA⟩ := hrel
  by_cases hlt : k < l.length
  ·obtain ⟨b, o, rfl, hb, hc⟩ := H3.out (by omega)
   have hbr : b < wr.heap.size := Nat.lt_of_lt_of_le hb HE.out.size
   have hcr : ∀ i u, (vwc l[k]!)[i]? = some u → wr.cell? ⟨b, o + k * 3 + i, none⟩ = some u := fun i u hu => (HE.out.cells b _ hb).trans (hc k hlt i u hu)
   clear hc
   have hkk : l[k]! = l[k] := by simp [hlt]
   rw [hkk] at hcr
   have HL := Lib.hid hlt
   have hlt' : (k : Int) < (l.length : Int) := by omega
   generalize hX : l[k] = x at hcr
   have HX := Lib.hid hX
   clear hX hkk
   have hcall := HP.out wr x HE.out
   obtain ⟨x0, x1, x2⟩ := x
   have c0 := hcr 0 _ rfl
   have c1 := hcr 1 _ rfl
   have c2 := hcr 2 _ rfl
   simp only [Nat.add_zero] at c0
   clear hcr
   unfold vwc at hcall
   cases hq : p ⟨x0, x1, x2⟩ with
   | true =>
    rw [hq] at hcall
    have HC := Lib.hid hcall
    have HQ := Lib.hid hq
    clear hcall hq
    go_wp2_with (go_at_fn g; refine (HC.out).mono ?_; rintro e w1 ⟨rfl, h1⟩)
    go_ret
    refine ⟨ret_int ?_, HE.out.trans h1⟩
    unfold ixBy
    rw [findIdx_some HL.out (fun j hj => HA.out j hj (by omega)) (by have := HQ.out; rw [← HX.out] at this; exact this)]
   | false =>
    rw [hq] at hcall
    have HC := Lib.hid hcall
    have HQ := Lib.hid hq
    clear hcall hq
    go_wp2_with (go_at_fn g; refine (HC.out).mono ?_; rintro e w1 ⟨rfl, h1⟩)
    go_roundg (l.length - (k + 1))
    case measure => omega
    case rel =>
     refine ⟨k + 1, by omega, by omega, by go_num, HE.out.trans h1, fun j hj h => ?_⟩
     by_cases e : j = k
     ·subst e; have := HQ.out; rw [← HX.out] at this; exact this
     ·exact HA.out j (by omega) h
  ·have hkl : k = l.length := by omega
   have hge : ¬ (k : Int) < (l.length : Int) := by omega
   have HK := Lib.hid hkl
   clear hkl
   go_wp2
   go_ret
   refine ⟨ret_int ?_, HE.out⟩
   unfold ixBy
   rw [findIdx_none (fun j hj => HA.out j (by have := HK.out; omega) hj)]

set_option maxHeartbeats 2000000 in
theorem ContainsFunc_view (p : Vw → Bool) (g : Nat) (lb : Array Value) (eg : ∀ args w, (callFunc g args).run Tryd.prog w = .ok (.enter g args) w) (l : List Vw) (v : Value) (w : World) (hr : RdL 3 vwc w v l)
  (hp : ∀ W x, Ext w W → Calls Tryd.prog g (#[.agg (vwc x)] ++ lb) W fun e w' => e = .returned (.bool (p x)) ∧ Ext W w') :
  Calls Tryd.prog 69 #[v, .func (.func g) #[] lb] w fun e w' => e = .returned (.bool (l.any p)) ∧ Ext w w' := by
 have hi := IndexFunc_view p g lb eg l v w hr hp
 rw [← ixBy_any]
 generalize ixBy p l = r at hi
 have HI := Lib.hid hi
 clear hi hp hr eg
 go_enter Tryd.func69, Tryd.ntmps69
 go_wp2_with fail
 refine (HI.out).mono ?_
 rintro e w1 ⟨rfl, h1⟩
 have H1 := Lib.hid h1
 clear h1
 go_wp2_with fail
 all_goals
  go_ret
  exact ⟨ret_bool (by simp_all), H1.out⟩
end Go.Proofs.YteojjbhadgkfgaaDoor

/- lead.Check. -/
namespace Go.Proofs.YteojjbhadgkfgaaDoor
set_option linter.unusedSimpArgs false
set_option linter.unusedVariables false
set_option maxRecDepth 100000
open Go Go.RowKit Lb

theorem RdL.vw_at {w : World} {v : Value} {l : List Vw} (h : RdL 3 vwc w v l) {A : Option Addr} {n c : Nat} (hv : v = .slice A n c) {k : Nat} (hk : k < l.length) : ∃ b o, A = some ⟨b, o, none⟩ ∧ b < w.heap.size ∧
  w.cell? ⟨b, o + k * 3, none⟩ = some (.int .i64 l[k].epoch) ∧ w.cell? ⟨b, o + k * 3 + 1, none⟩ = some (.int .i64 l[k].leader) ∧ w.cell? ⟨b, o + k * 3 + 2, none⟩ = some (.bool l[k].up) := by
 subst hv
 obtain ⟨b, o, c', hv, hb, hc⟩ := h.at_ hk
 injection hv with hA
 exact ⟨b, o, hA, hb, hc 0 _ rfl, hc 1 _ rfl, hc 2 _ rfl⟩
theorem any_clash (w : World) (v : Vw) (g : Nat) (l : List Vw) (s : Value) (hr : RdL 3 vwc w s l) (hg : Row w g (vwc v)) :
  Calls Tryd.prog 69 #[s, .func (.func 70) #[] #[.pointer (some ⟨g, 0, none⟩)]] w fun e w' => e = .returned (.bool (l.any (clash v))) ∧ Ext w w' :=
 ContainsFunc_view (clash v) 70 #[.pointer (some ⟨g, 0, none⟩)] (fun args w => by simp [go_sem]) l s w hr (fun W x h => lead_Check1 x v g W (hg.ext h))

set_option maxRecDepth 100000 in
set_option maxHeartbeats 4000000 in
theorem lead_Check (l : List Vw) (v : Value) (w : World) (hr : RdL 3 vwc w v l) :
  Calls Tryd.prog 43 #[v] w fun e w' => e = .returned (.int .i64 (ckViews l)) ∧ Ext w w' := by
 obtain ⟨A, c, rfl, hmc, hm0⟩ := hr.form
 have hm : l.length ≤ 9223372036854775807 := by unfold maxLen at hm0; omega
 unfold ckViews
 by_cases h3 : l.length = 3
 ·rw [if_neg (by simpa using h3), h3]
  rw [h3] at hr
  have HRd := Lib.hid hr
  have HL := Lib.hid h3
  have h3c : 3 ≤ c := by omega
  generalize hR1 : eachE ckView l = r1
  generalize hR2 : clashes [] l = r2
  generalize hR3 : (if r1 ≠ 0 then r1 else if r2 = true then (4 : Int) else 0) = res
  have HR1 := Lib.hid hR1
  have HR2 := Lib.hid hR2
  have HR3 := Lib.hid hR3
  clear hr h3 hR1 hR2 hR3 hm hm0 hmc
  go_enter Tryd.func43, Tryd.ntmps43
  go_wp2_with fail
  go_loopg [2, 4, 12] 3 (fun gg _ _ s12 wr => ∃ k : Nat, k ≤ 3 ∧ 3 - k ≤ gg ∧ s12 = .int .i64 k ∧ Aside (Ext w wr) ∧ Aside (eachE ckView (l.drop k) = r1))
  case atStart => exact ⟨0, by omega, by omega, rfl, Ext.refl _, HR1.out⟩
  case round =>
   obtain ⟨k, hk, hg, rfl, HE, HA⟩ := hrel
   by_cases hlt : k < 3
   ·have hkl : k < l.length := by rw [HL.out]; exact hlt
    have hlt' : (k : Int) < 3 := by omega
    obtain ⟨b, o, rfl, hb, c0, c1, c2⟩ := (HRd.out.ext HE.out).vw_at rfl hkl
    have hA := HA.out
    rw [List.drop_eq_getElem_cons hkl, eachE_cons] at hA
    have hck : ckView l[k] = if within l[k].epoch 0 99 = false ∨ within l[k].leader 0 1 = false then 3 else if l[k].epoch = 0 ∧ l[k].leader ≠ 0 then 4 else 0 := rfl
    have hW0 := fun w => lead_within l[k].epoch 0 99 w
    have hW1 := fun w => lead_within l[k].leader 0 1 w
    generalize ckView l[k] = q at hA hck
    generalize l[k].epoch = x0 at *
    generalize l[k].leader = x1 at *
    generalize l[k].up = x2 at *
    generalize within x0 0 99 = z0 at *
    generalize within x1 0 1 = z1 at *
    have HW0 := Lib.hid hW0
    have HW1 := Lib.hid hW1
    have HE2 := Lib.hid HE.out
    clear hW0 hW1 HE HA hkl
    by_cases hq : q = 0
    ·have hA2 : eachE ckView (l.drop (k + 1)) = r1 := by rw [if_neg (by simpa using hq)] at hA; exact hA
     have HA2 := Lib.hid hA2
     have hz : z0 = true ∧ z1 = true ∧ ¬ (x0 = 0 ∧ x1 ≠ 0) := by
      rw [hq] at hck
      cases z0 <;> cases z1 <;> simp at hck ⊢
      exact hck
     obtain ⟨rfl, rfl, hz2⟩ := hz
     clear hA hA2 hck hq
     by_cases hx0 : x0 = 0
     ·have hx1 : x1 = 0 := by
       apply Classical.byContradiction
       intro h
       exact hz2 ⟨hx0, h⟩
      subst hx0 hx1
      clear hz2
      go_wp2_with fail
      refine (HW0.out _).mono ?_
      rintro e w' ⟨rfl, rfl⟩
      go_wp2_with fail
      refine (HW1.out _).mono ?_
      rintro e w' ⟨rfl, rfl⟩
      go_wp2_with fail
      go_roundg (3 - (k + 1))
      case measure => omega
      case rel => exact ⟨k + 1, by omega, by omega, by go_num, (show Ext w _ by exact extA), HA2.out⟩
     ·have hx0b : (x0 == 0) = false := by simpa using hx0
      clear hz2
      go_wp2_with fail
      refine (HW0.out _).mono ?_
      rintro e w' ⟨rfl, rfl⟩
      go_wp2_with fail
      refine (HW1.out _).mono ?_
      rintro e w' ⟨rfl, rfl⟩
      go_wp2_with fail
      go_roundg (3 - (k + 1))
      case measure => omega
      case rel => exact ⟨k + 1, by omega, by omega, by go_num, (show Ext w _ by exact extA), HA2.out⟩
    ·have hA2 : res = q := by rw [if_pos hq] at hA; rw [← HR3.out, ← hA, if_pos hq]
     clear hA HR3
     cases z0
     ·have hq3 : res = 3 := by rw [hA2, hck]; simp
      have HQ := Lib.hid hq3
      clear hA2 hck hq hq3
      go_wp2_with fail
      refine (HW0.out _).mono ?_
      rintro e w' ⟨rfl, rfl⟩
      go_wp2_with fail
      go_ret
      refine ⟨ret_int (by rw [HQ.out]), ?_⟩
      exact extA
     ·cases z1
      ·have hq3 : res = 3 := by rw [hA2, hck]; simp
       have HQ := Lib.hid hq3
       clear hA2 hck hq hq3
       go_wp2_with fail
       refine (HW0.out _).mono ?_
       rintro e w' ⟨rfl, rfl⟩
       go_wp2_with fail
       refine (HW1.out _).mono ?_
       rintro e w' ⟨rfl, rfl⟩
       go_wp2_with fail
       go_ret
       refine ⟨ret_int (by rw [HQ.out]), ?_⟩
       exact extA
      ·have hz : x0 = 0 ∧ x1 ≠ 0 := by
        apply Classical.byContradiction
        intro h
        rw [if_neg (by simp), if_neg h] at hck
        exact hq hck
       have hq3 : res = 4 := by rw [hA2, hck, if_neg (by simp), if_pos hz]
       have HQ := Lib.hid hq3
       obtain ⟨hx0, hx1⟩ := hz
       have hx1b : (x1 != 0) = true := by simpa using hx1
       subst hx0
       clear hA2 hck hq hq3 hx1
       go_wp2_with fail
       refine (HW0.out _).mono ?_
       rintro e w' ⟨rfl, rfl⟩
       go_wp2_with fail
       refine (HW1.out _).mono ?_
       rintro e w' ⟨rfl, rfl⟩
       go_wp2_with fail
       go_ret
       refine ⟨ret_int (by rw [HQ.out]), ?_⟩
       exact extA
   ·have hk3 : k = 3 := by omega
    subst hk3
    have hr0 : r1 = 0 := by
     have := HA.out
     rw [List.drop_of_length_le (by rw [HL.out]; exact Nat.le_refl _)] at this
     exact this.symm
    have HZ := Lib.hid (show (if r2 = true then (4 : Int) else 0) = res by rw [← HR3.out, hr0]; simp)
    have HE2 := Lib.hid HE.out
    clear HA HE HR3 hr0 HR1
    go_wp2_with fail
    go_loopg [2, 5, 6, 39] 3 (fun gg _ _ _ s39 wq => ∃ k : Nat, k ≤ 3 ∧ 3 - k ≤ gg ∧ s39 = .int .i64 k ∧ Aside (Ext w wq) ∧ Aside (clashes (l.take k) (l.drop k) = r2))
    case atStart => exact ⟨0, by omega, by omega, rfl, HE2.out, HR2.out⟩
    case round =>
     obtain ⟨k, hk, hg, rfl, HE, HA⟩ := hrel
     by_cases hlt : k < 3
     ·have hkl : k < l.length := by rw [HL.out]; exact hlt
      have hlt' : (k : Int) < 3 := by omega
      have hle' : (k : Int) ≤ (c : Int) := by omega
      obtain ⟨b, o, rfl, hb, c0, c1, c2⟩ := (HRd.out.ext HE.out).vw_at rfl hkl
      have hA := HA.out
      rw [List.drop_eq_getElem_cons hkl, clashes_cons, ← take_snoc_get l k hkl] at hA
      have hRT := (HRd.out).take k (by omega)
      have HAN := Lib.hid (fun (W : World) (g : Nat) (h : Ext w W) (hg : Row W g (vwc l[k])) => any_clash W l[k] g (l.take k) _ (hRT.ext h) hg)
      generalize l[k] = x at *
      generalize (l.take k).any (clash x) = q at *
      obtain ⟨x0, x1, x2⟩ := x
      simp only at c0 c1 c2
      unfold vwc at HAN
      have HE3 := Lib.hid HE.out
      have hlk : (l.take k).length = k := by rw [List.length_take, HL.out]; omega
      clear HE HA hRT hkl hlk
      cases q
      ·rw [Bool.false_or] at hA
       have HA2 := Lib.hid hA
       clear hA
       go_wp2_with fail
       refine (HAN.out _ _ (by exact extA) (Row.newAt rfl)).mono ?_
       rintro e w1 ⟨rfl, h1⟩
       have H1 := Lib.hid h1
       clear h1
       go_wp2_with fail
       go_roundg (3 - (k + 1))
       case measure => omega
       case rel => exact ⟨k + 1, by omega, by omega, by go_num, (show Ext w _ by exact extA), HA2.out⟩
      ·rw [Bool.true_or] at hA
       have HQ := Lib.hid (show res = 4 by rw [← HZ.out, ← hA]; simp)
       clear hA
       go_wp2_with fail
       refine (HAN.out _ _ (by exact extA) (Row.newAt rfl)).mono ?_
       rintro e w1 ⟨rfl, h1⟩
       have H1 := Lib.hid h1
       clear h1
       go_wp2_with fail
       go_ret
       refine ⟨ret_int (by rw [HQ.out]), ?_⟩
       exact extA
     ·have hk3 : k = 3 := by omega
      subst hk3
      have HQ := Lib.hid (show res = 0 by
       have := HA.out
       rw [List.drop_of_length_le (by rw [HL.out]; exact Nat.le_refl _)] at this
       rw [← HZ.out, ← this]
       simp [clashes])
      have HE3 := Lib.hid HE.out
      clear HA HE
      go_wp2_with fail
      go_ret
      exact ⟨ret_int (by rw [HQ.out]), HE3.out⟩
 ·rw [if_pos h3]
  have h3b : ((l.length : Int) != 3) = true := by
   have : (l.length : Int) ≠ 3 := by omega
   simpa using this
  clear hr h3
  go_enter Tryd.func43, Tryd.ntmps43
  go_wp2_with fail
  go_ret
  exact ⟨ret_int rfl, Ext.refl _⟩
end Go.Proofs.YteojjbhadgkfgaaDoor

/- lead: many, greatest, Who, Now. -/
namespace Go.Proofs.YteojjbhadgkfgaaDoor
set_option linter.unusedSimpArgs false
set_option linter.unusedVariables false
set_option maxRecDepth 100000
open Go Go.RowKit Lb

set_option maxHeartbeats 2000000 in
theorem lead_many (p : Vw → Bool) (g : Nat) (lb : Array Value) (eg : ∀ args w, (callFunc g args).run Tryd.prog w = .ok (.enter g args) w) (l : List Vw) (v : Value) (w : World) (hr : RdL 3 vwc w v l) (h3 : l.length = 3)
  (hp : ∀ W x, Ext w W → Calls Tryd.prog g (#[.agg (vwc x)] ++ lb) W fun e w' => e = .returned (.bool (p x)) ∧ Ext W w') :
  Calls Tryd.prog 56 #[v, .func (.func g) #[] lb] w fun e w' => e = .returned (.int .i64 (countV p l)) ∧ Ext w w' := by
 obtain ⟨A, c, rfl, hmc, hm0⟩ := hr.form
 rw [h3] at hr ⊢
 have HRd := Lib.hid hr
 have HL := Lib.hid h3
 have HP := Lib.hid hp
 generalize hR : countV p l = r
 have HR := Lib.hid hR
 clear hr h3 hp hmc hm0 hR
 go_enter Tryd.func56, Tryd.ntmps56
 go_wp2_with fail
 go_loopg [5, 7, 10] 3 (fun gg s5 _ s10 wr => ∃ (k : Nat) (n : Int), k ≤ 3 ∧ 3 - k ≤ gg ∧ s5 = .int .i64 n ∧ s10 = .int .i64 k ∧ 0 ≤ n ∧ n ≤ k ∧ Aside (Ext w wr) ∧ Aside (n + countV p (l.drop k) = r))
 case atStart => exact ⟨0, 0, by omega, by omega, rfl, rfl, by omega, by omega, Ext.refl _, by rw [Int.zero_add]; exact HR.out⟩
 case round =>
  obtain ⟨k, n, hk, hg, rfl, rfl, hn0, hnk, HE, HA⟩ := hrel
  by_cases hlt : k < 3
  ·have hkl : k < l.length := by rw [HL.out]; exact hlt
   have hlt' : (k : Int) < 3 := by omega
   obtain ⟨b, o, rfl, hb, c0, c1, c2⟩ := (HRd.out.ext HE.out).vw_at rfl hkl
   have hA := HA.out
   rw [List.drop_eq_getElem_cons hkl, countV_cons] at hA
   have hcall := HP.out
   generalize l[k] = x at *
   have hcx := fun W h => hcall W x h
   generalize p x = q at *
   obtain ⟨x0, x1, x2⟩ := x
   simp only at c0 c1 c2
   unfold vwc at hcx
   have HC := Lib.hid hcx
   have HE2 := Lib.hid HE.out
   have hw1 : IntKind.i64.wrap (n + 1) = n + 1 := IntWalk.i64_in _ (by omega)
   clear hcall hcx HE HA hkl
   cases q
   ·have HA2 := Lib.hid (show n + countV p (l.drop (k + 1)) = r by simpa using hA)
    clear hA
    go_wp2_with (go_at_fn g; refine (HC.out _ (by exact extA)).mono ?_; rintro e w1 ⟨rfl, h1⟩; have H1 := Lib.hid h1; clear h1)
    go_roundg (3 - (k + 1))
    case measure => omega
    case rel => exact ⟨k + 1, n, by omega, by omega, rfl, by go_num, by omega, by push_cast; omega, (show Ext w _ by exact extA), HA2.out⟩
   ·have HA2 := Lib.hid (show n + 1 + countV p (l.drop (k + 1)) = r by simp at hA; omega)
    clear hA
    go_wp2_with (go_at_fn g; refine (HC.out _ (by exact extA)).mono ?_; rintro e w1 ⟨rfl, h1⟩; have H1 := Lib.hid h1; clear h1)
    go_roundg (3 - (k + 1))
    case measure => omega
    case rel => exact ⟨k + 1, n + 1, by omega, by omega, by go_num, by go_num, by omega, by push_cast; omega, (show Ext w _ by exact extA), HA2.out⟩
  ·have hk3 : k = 3 := by omega
   subst hk3
   have HQ := Lib.hid (show n = r by
    have := HA.out
    rw [List.drop_of_length_le (by rw [HL.out]; exact Nat.le_refl _)] at this
    simpa [countV] using this)
   have HE3 := Lib.hid HE.out
   clear HA HE
   go_wp2_with fail
   go_ret
   exact ⟨ret_int (by rw [HQ.out]), HE3.out⟩

set_option maxHeartbeats 2000000 in
theorem lead_greatest (l : List Vw) (v : Value) (w : World) (hr : RdL 3 vwc w v l) (h3 : l.length = 3) :
  Calls Tryd.prog 53 #[v] w fun e w' => e = .returned (.int .i64 (topV 0 l)) ∧ Ext w w' := by
 obtain ⟨A, c, rfl, hmc, hm0⟩ := hr.form
 rw [h3] at hr ⊢
 have HRd := Lib.hid hr
 have HL := Lib.hid h3
 generalize hR : topV 0 l = r
 have HR := Lib.hid hR
 clear hr h3 hmc hm0 hR
 go_enter Tryd.func53, Tryd.ntmps53
 go_wp2_with fail
 go_loopg [3, 5, 8] 3 (fun gg s3 _ s8 wr => ∃ (k : Nat) (n : Int), k ≤ 3 ∧ 3 - k ≤ gg ∧ s3 = .int .i64 n ∧ s8 = .int .i64 k ∧ Aside (Ext w wr) ∧ Aside (topV n (l.drop k) = r))
 case atStart => exact ⟨0, 0, by omega, by omega, rfl, rfl, Ext.refl _, HR.out⟩
 case round =>
  obtain ⟨k, n, hk, hg, rfl, rfl, HE, HA⟩ := hrel
  by_cases hlt : k < 3
  ·have hkl : k < l.length := by rw [HL.out]; exact hlt
   have hlt' : (k : Int) < 3 := by omega
   obtain ⟨b, o, rfl, hb, c0, c1, c2⟩ := (HRd.out.ext HE.out).vw_at rfl hkl
   have hA := HA.out
   rw [List.drop_eq_getElem_cons hkl] at hA
   unfold topV at hA
   generalize l[k] = x at *
   obtain ⟨x0, x1, x2⟩ := x
   simp only at c0 c1 c2 hA
   have HE2 := Lib.hid HE.out
   have HA2 := Lib.hid hA
   clear HE HA hkl hA
   go_wp2_with fail
   all_goals
    go_roundg (3 - (k + 1))
    case measure => omega
    case rel =>
     refine ⟨k + 1, _, by omega, by omega, rfl, by go_num, (show Ext w _ by exact extA), ?_⟩
     have hA := HA2.out
     first
      | exact hA
      | (rw [show max n x0 = x0 by omega] at hA; exact hA)
      | (rw [show max n x0 = n by omega] at hA; exact hA)
  ·have hk3 : k = 3 := by omega
   subst hk3
   have HQ := Lib.hid (show n = r by
    have := HA.out
    rw [List.drop_of_length_le (by rw [HL.out]; exact Nat.le_refl _)] at this
    exact this)
   have HE3 := Lib.hid HE.out
   clear HA HE
   go_wp2_with fail
   go_ret
   exact ⟨ret_int (by rw [HQ.out]), HE3.out⟩
end Go.Proofs.YteojjbhadgkfgaaDoor

/- lead.Who and Now. -/
namespace Go.Proofs.YteojjbhadgkfgaaDoor
set_option linter.unusedSimpArgs false
set_option linter.unusedVariables false
set_option maxRecDepth 100000
open Go Go.RowKit Lb

theorem ixBy_find {α : Type} (p : α → Bool) (l : List α) {x : α} (h : l.find? p = some x) : ∃ i : Nat, ixBy p l = i ∧ ∃ hi : i < l.length, l[i] = x := by
 rw [List.find?_eq_some_iff_getElem] at h
 obtain ⟨hp, i, hi, hx, hj⟩ := h
 refine ⟨i, ?_, hi, hx⟩
 unfold ixBy
 rw [findIdx_some hi (fun j hj' => by simpa using hj j hj') (by rw [hx]; exact hp)]
theorem top_find {l : List Vw} (hr : RightV l) : ∃ v, l.find? (atTop (topV 0 l)) = some v := by
 cases hf : l.find? (atTop (topV 0 l)) with
 | some v => exact ⟨v, rfl⟩
 | none =>
  exfalso
  rw [List.find?_eq_none] at hf
  rcases topV_mem 0 l with h | ⟨v, hv, h⟩
  ·have hp : 0 < l.length := by rw [hr.1]; omega
   have hm := List.getElem_mem hp
   have h1 := le_topV 0 l _ hm
   have h2 := (ckView_ok _).1 (hr.2.1 _ hm)
   have h3 := hf _ hm
   simp only [atTop, beq_iff_eq] at h3
   omega
  ·have h3 := hf _ hv
   simp [atTop, h] at h3

set_option maxHeartbeats 4000000 in
theorem lead_Who (l : List Vw) (v : Value) (w : World) (hr : RdL 3 vwc w v l) (hd : ckViews l = 0) :
  Calls Tryd.prog 18 #[v] w fun e w' => e = .returned (.tuple #[.int .i64 (whoV l).1, .bool (whoV l).2]) ∧ Ext w w' := by
 have hR := (rightV_iff l).1 hd
 obtain ⟨x, hx⟩ := top_find hR
 obtain ⟨i, hi, hil, hlx⟩ := ixBy_find _ _ hx
 have hwt : whoTop l = x.leader := by unfold whoTop; rw [hx]
 have hxr := (ckView_ok x).1 (hR.2.1 x (by rw [← hlx]; exact List.getElem_mem hil))
 obtain ⟨n, hn⟩ : ∃ n : Nat, x.leader = n := ⟨x.leader.toNat, by omega⟩
 have hn3 : n < l.length := by rw [hR.1]; omega
 have hup : isUp l x.leader = l[n].up := by
  unfold isUp
  rw [hn, Int.toNat_natCast, List.getElem?_eq_getElem hn3]
 have HG := Lib.hid (fun (w' : World) (h : Ext w w') => lead_greatest l v w' (hr.ext h) hR.1)
 have HI := Lib.hid (fun (w' : World) (g : Nat) (h : Ext w w') (hg : Row w' g #[.int .i64 (topV 0 l)]) => IndexFunc_view (atTop (topV 0 l)) 55 #[.pointer (some ⟨g, 0, none⟩)] (fun args w => by simp [go_sem]) l v w' (hr.ext h) (fun W x h => lead_Who1 x (topV 0 l) g W (hg.ext h)))
 have HM := Lib.hid (fun (w' : World) (g : Nat) (h : Ext w w') (hg : Row w' g #[.int .i64 (topV 0 l)]) => lead_many (upTop (topV 0 l)) 57 #[.pointer (some ⟨g, 0, none⟩)] (fun args w => by simp [go_sem]) l v w' (hr.ext h) hR.1 (fun W x h => lead_Who2 x (topV 0 l) g W (hg.ext h)))
 have hcnt := countV_nonneg (upTop (topV 0 l)) l
 have hcl : countV (upTop (topV 0 l)) l ≤ 3 := by
  have : ∀ m : List Vw, countV (upTop (topV 0 l)) m ≤ m.length := by
   intro m
   induction m with
   | nil => simp [countV]
   | cons a m ih => rw [countV_cons, List.length_cons]; push_cast; split <;> omega
  have := this l
  rw [hR.1] at this
  exact this
 unfold whoV leads
 rw [hwt, hup]
 rw [hi] at HI
 have hli : l[i].leader = n := by rw [hlx]; exact hn
 obtain ⟨A, c, rfl, -, -⟩ := hr.form
 obtain ⟨b, o, rfl, hb, c0, c1, c2⟩ := hr.vw_at rfl hil
 obtain ⟨b', o', hA, -, d0, d1, d2⟩ := hr.vw_at rfl hn3
 injection hA with hA
 injection hA with h1 h2
 subst h1 h2
 rw [hli] at c1
 rw [hn]
 have hi3 : i < 3 := by rw [← hR.1]; exact hil
 have hn3' : n < 3 := by rw [← hR.1]; exact hn3
 rw [hR.1] at HG HI HM ⊢
 generalize l[n].up = u at *
 generalize topV 0 l = top at *
 generalize countV (upTop top) l = m at *
 generalize hres : (if (decide (0 < top) && decide (3 < 2 * m) && u) = true then ((n : Int), true) else (0, false)) = res
 have HRES := Lib.hid hres
 have hw2 : IntKind.i64.wrap (2 * m) = 2 * m := IntWalk.i64_in _ (by omega)
 have hii : (i : Int) < 3 := by omega
 have hni : (n : Int) < 3 := by omega
 clear hres hr hd hR hx hlx hwt hxr hn hup hli hi hil hn3 c0 c2 d0 d1 hcnt
 go_enter Tryd.func18, Tryd.ntmps18
 go_wp2_with fail
 (refine (HG.out _ (by exact extA)).mono ?_; rintro e w1 ⟨rfl, h1⟩; have H1 := Lib.hid h1; have hz1 := h1.size; clear h1; (try simp only [World.size_alloc, size_set, World.heap_drewN, size_drew] at hz1))
 go_wp2_with fail
 have hc1 : (w1.alloc (.cells #[.int .i64 top] 3)).cell? ⟨b, o + i * 3 + 1, none⟩ = some (.int .i64 n) := by
  have hE : Ext w (w1.alloc (.cells #[.int .i64 top] 3)) := by exact extA
  exact (hE.cells b _ hb).trans c1
 refine (HI.out _ _ (by exact extA) (Row.newAt rfl)).mono ?_
 rintro e w2 ⟨rfl, h2⟩
 have H2 := Lib.hid h2
 have hz2 := h2.size
 clear h2
 (apply Row.use (w := w2) (g := w1.heap.size); (focus (exact rowA)); intro q2_0 f2_0 l2_0 R2_0; (try simp only [lSet] at q2_0 R2_0))
 have hE2 : Ext w w2 := by exact extA
 have e1 := (hE2.cells b (o + i * 3 + 1) hb).trans c1
 go_wp2_with fail
 refine (HM.out _ _ hE2 R2_0.out).mono ?_
 rintro e w3 ⟨rfl, h3⟩
 have H3 := Lib.hid h3
 clear h3
 (apply Row.use (w := w3) (g := w1.heap.size); (focus (exact rowA)); intro q3_0 f3_0 l3_0 R3_0; (try simp only [lSet] at q3_0 R3_0))
 have hE3 : Ext w w3 := by exact extA
 have e2 := (hE3.cells b (o + n * 3 + 2) hb).trans d2
 have HE3 := Lib.hid hE3
 clear hE2 hE3
 by_cases ht : 0 < top
 ·have htd : decide (0 < top) = true := by simpa using ht
  by_cases hm : 3 < 2 * m
  ·have hmd : decide (3 < 2 * m) = true := by simpa using hm
   cases u
   ·have HQ := Lib.hid (show res = (0, false) by rw [← HRES.out]; simp)
    clear HRES
    go_wp2_with fail
    go_ret2
    exact ⟨by rw [HQ.out]; rfl, HE3.out⟩
   ·have HQ := Lib.hid (show res = ((n : Int), true) by rw [← HRES.out]; simp [ht, hm])
    clear HRES
    go_wp2_with fail
    go_ret2
    exact ⟨by rw [HQ.out]; rfl, HE3.out⟩
  ·have hmd : decide (3 < 2 * m) = false := by simpa using hm
   have HQ := Lib.hid (show res = (0, false) by rw [← HRES.out]; simp [hm])
   clear HRES
   go_wp2_with fail
   go_ret2
   exact ⟨by rw [HQ.out]; rfl, HE3.out⟩
 ·have htd : decide (0 < top) = false := by simpa using ht
  have HQ := Lib.hid (show res = (0, false) by rw [← HRES.out]; simp [ht])
  clear HRES
  go_wp2_with fail
  go_ret2
  exact ⟨by rw [HQ.out]; rfl, HE3.out⟩

end Go.Proofs.YteojjbhadgkfgaaDoor

/- slices.Clone over records. -/
namespace Go.Proofs.YteojjbhadgkfgaaDoor
set_option linter.unusedSimpArgs false
set_option linter.unusedVariables false
set_option maxRecDepth 100000
open Go Go.RowKit Lb

end Go.Proofs.YteojjbhadgkfgaaDoor

/- station.New: three gates, three views. -/
namespace Go.Proofs.YteojjbhadgkfgaaDoor
set_option linter.unusedSimpArgs false
set_option linter.unusedVariables false
set_option maxRecDepth 100000
open Go Go.RowKit Lb

/-- a gate as it lies in memory: its two slices are values -/
structure Gv where
 id : Int
 zone : Int
 seq : Int
 alone : Value
 ver : Int
 ids : Value
 left : Int
 untl : Int
instance : Inhabited Gv := ⟨⟨0, 0, 0, .slice none 0 0, 0, .slice none 0 0, 0, 0⟩⟩
end Go.Proofs.YteojjbhadgkfgaaDoor

/- lead.Raw, Win, Turn, Set. -/
namespace Go.Proofs.YteojjbhadgkfgaaDoor
set_option linter.unusedSimpArgs false
set_option linter.unusedVariables false
set_option maxRecDepth 100000
open Go Go.RowKit Lb

end Go.Proofs.YteojjbhadgkfgaaDoor

/- The references on views: CheckViews, WhoOf, SameViews; viewsAre. -/
namespace Go.Proofs.YteojjbhadgkfgaaDoor
set_option linter.unusedSimpArgs false
set_option linter.unusedVariables false
set_option maxRecDepth 100000
open Go Go.RowKit Lb

set_option maxHeartbeats 4000000 in
theorem ref_WhoOf (l : List Vw) (v : Value) (w : World) (hr : RdL 3 vwc w v l) (hd : ckViews l = 0) :
  Calls Tryd.prog 34 #[v] w fun e w' => e = .returned (.tuple #[.int .i64 (whoV l).1, .bool (whoV l).2]) ∧ Ext w w' := by
 have hR := (rightV_iff l).1 hd
 obtain ⟨A, c, rfl, -, -⟩ := hr.form
 rw [hR.1] at hr ⊢
 have HL := Lib.hid hR.1
 have HRd := Lib.hid hr
 have HCK := Lib.hid (fun x (hx : x ∈ l) => (ckView_ok x).1 (hR.2.1 x hx))
 generalize hres : whoV l = res
 have HRES := Lib.hid (show whoR l 99 = res by rw [who_eq hd]; exact hres)
 clear hr hd hR hres
 go_enter Tryd.func34, Tryd.ntmps34
 go_wp2_with fail
 go_loopg [2, 3, 4, 5, 6, 7, 8] 99 (fun gg _ _ s4 _ _ _ _ wr => ∃ e : Nat, e ≤ 99 ∧ e ≤ gg ∧ s4 = .int .i64 e ∧ Aside (Ext w wr) ∧ Aside (whoR l e = res))
 case atStart => exact ⟨99, by omega, by omega, by go_num, Ext.refl _, HRES.out⟩
 case round =>
  obtain ⟨e, he, hg, rfl, HE, HA⟩ := hrel
  cases e with
  | zero =>
   have HQ := Lib.hid (show res = (0, false) from HA.out.symm)
   have HE2 := Lib.hid HE.out
   clear HA HE
   go_wp2_with fail
   go_ret2
   exact ⟨by rw [HQ.out]; rfl, HE2.out⟩
  | succ e =>
   have hA := HA.out
   unfold whoR at hA
   rw [show ((e + 1 : Nat) : Int) = (e : Int) + 1 from by push_cast; rfl]
   have hpos : (0 : Int) < (e : Int) + 1 := by omega
   have hew : IntKind.i64.wrap ((e : Int) + 1 - 1) = (e : Int) := by rw [IntWalk.i64_in _ (by omega)]; omega
   generalize hS : stepE ((e : Int) + 1) (false, 0, 0) l = s at hA
   have HS := Lib.hid hS
   have HA2 := Lib.hid hA
   have HE2 := Lib.hid HE.out
   clear hA hS HA HE
   go_wp2_with fail
   go_loopg [5, 6, 7, 8] 3 (fun gg s5 s6 s7 s8 wq => ∃ (k : Nat) (t : Bool) (n q : Int), k ≤ 3 ∧ 3 - k ≤ gg ∧ s5 = .bool t ∧ s6 = .int .i64 n ∧ s7 = .int .i64 q ∧ s8 = .int .i64 k ∧ 0 ≤ n ∧ n ≤ k ∧ 0 ≤ q ∧ q ≤ 1 ∧ Aside (Ext w wq) ∧ Aside (stepE ((e : Int) + 1) (t, n, q) (l.drop k) = s))
   case atStart => exact ⟨0, false, 0, 0, by omega, by omega, rfl, rfl, rfl, rfl, by omega, by omega, by omega, by omega, HE2.out, HS.out⟩
   case round =>
    obtain ⟨k, t, n, q, hk, hg, rfl, rfl, rfl, rfl, hn0, hnk, hq0, hq1, HE, HA⟩ := hrel
    by_cases hlt : k < 3
    ·have hkl : k < l.length := by rw [HL.out]; exact hlt
     have hlt' : (k : Int) < 3 := by omega
     obtain ⟨b, o, rfl, hb, c0, c1, c2⟩ := (HRd.out.ext HE.out).vw_at rfl hkl
     have hA := HA.out
     rw [List.drop_eq_getElem_cons hkl, stepE_cons] at hA
     have hck := HCK.out l[k] (List.getElem_mem hkl)
     generalize l[k] = x at *
     obtain ⟨x0, x1, x2⟩ := x
     simp only at c0 c1 c2 hA hck
     have hw1 : IntKind.i64.wrap (n + 1) = n + 1 := IntWalk.i64_in _ (by omega)
     have HE3 := Lib.hid HE.out
     clear HE HA hkl
     by_cases hx : x0 = (e : Int) + 1
     ·have hxb : (x0 == (e : Int) + 1) = true := by simpa using hx
      rw [if_pos hx] at hA
      clear hx
      cases x2
      ·have HA3 := Lib.hid hA
       clear hA
       go_wp2_with fail
       go_region
       go_wp2_with fail
       go_roundg (3 - (k + 1))
       case measure => omega
       case rel => exact ⟨k + 1, true, n, x1, by omega, by omega, rfl, rfl, rfl, by go_num, by omega, by push_cast; omega, by omega, by omega, HE3.out.drew, HA3.out⟩
      ·have HA3 := Lib.hid hA
       clear hA
       go_wp2_with fail
       go_region
       go_wp2_with fail
       go_roundg (3 - (k + 1))
       case measure => omega
       case rel => exact ⟨k + 1, true, n + 1, x1, by omega, by omega, rfl, by go_num, rfl, by go_num, by omega, by push_cast; omega, by omega, by omega, HE3.out.drew, HA3.out⟩
     ·have hxb : (x0 == (e : Int) + 1) = false := by simpa using hx
      rw [if_neg hx] at hA
      have HA3 := Lib.hid hA
      clear hx hA
      go_wp2_with fail
      go_roundg (3 - (k + 1))
      case measure => omega
      case rel => exact ⟨k + 1, t, n, q, by omega, by omega, rfl, rfl, rfl, by go_num, by omega, by push_cast; omega, by omega, by omega, HE3.out, HA3.out⟩
    ·have hk3 : k = 3 := by omega
     subst hk3
     have hs : s = (t, n, q) := by
      have := HA.out
      rw [List.drop_of_length_le (by rw [HL.out]; exact Nat.le_refl _)] at this
      exact this.symm
     have hA := HA2.out
     rw [hs] at hA
     simp only at hA
     have HE3 := Lib.hid HE.out
     clear HA HE hs
     cases t
     ·have HA3 := Lib.hid (show whoR l e = res by simpa using hA)
      clear hA
      go_wp2_with fail
      go_roundg e
      case measure => omega
      case rel => exact ⟨e, by omega, by omega, by go_num, HE3.out, HA3.out⟩
     ·rw [if_pos rfl] at hA
      by_cases hn2 : 2 ≤ n
      ·have hnd : decide (2 ≤ n) = true := by simpa using hn2
       obtain ⟨m, rfl⟩ : ∃ m : Nat, q = m := ⟨q.toNat, by omega⟩
       have hml : m < l.length := by rw [HL.out]; omega
       obtain ⟨b, o, rfl, hb, -, -, c2⟩ := (HRd.out.ext HE3.out).vw_at rfl hml
       have hmi : (m : Int) < 3 := by omega
       have hm3 : m < 3 := by omega
       rw [show isUp l m = l[m].up from by unfold isUp; rw [Int.toNat_natCast, List.getElem?_eq_getElem hml]] at hA
       generalize l[m].up = u at *
       cases u
       ·have HQ := Lib.hid (show res = (0, false) by rw [← hA]; simp)
        clear hA
        go_wp2_with fail
        go_ret2
        exact ⟨by rw [HQ.out]; rfl, HE3.out⟩
       ·have HQ := Lib.hid (show res = ((m : Int), true) by rw [← hA]; simp [hn2])
        clear hA
        go_wp2_with fail
        go_ret2
        exact ⟨by rw [HQ.out]; rfl, HE3.out⟩
      ·have hnd : decide (2 ≤ n) = false := by simpa using hn2
       have HQ := Lib.hid (show res = (0, false) by rw [← hA]; simp [hn2])
       clear hA
       go_wp2_with fail
       go_ret2
       exact ⟨by rw [HQ.out]; rfl, HE3.out⟩

end Go.Proofs.YteojjbhadgkfgaaDoor

/- The references' CheckViews. -/
namespace Go.Proofs.YteojjbhadgkfgaaDoor
set_option linter.unusedSimpArgs false
set_option linter.unusedVariables false
set_option maxRecDepth 100000
open Go Go.RowKit Lb

set_option maxRecDepth 100000 in
set_option maxHeartbeats 4000000 in
theorem ref_CheckViews (l : List Vw) (v : Value) (w : World) (hr : RdL 3 vwc w v l) :
  Calls Tryd.prog 30 #[v] w fun e w' => e = .returned (.int .i64 (ckViews l)) ∧ Ext w w' := by
 obtain ⟨A, c, rfl, hmc, hm0⟩ := hr.form
 have hm : l.length ≤ 9223372036854775807 := by unfold maxLen at hm0; omega
 unfold ckViews
 by_cases h3 : l.length = 3
 ·rw [if_neg (by simpa using h3), h3]
  rw [h3] at hr
  have HRd := Lib.hid hr
  have HL := Lib.hid h3
  have h3c : 3 ≤ c := by omega
  generalize hR1 : eachE ckView l = r1
  generalize hR2 : clashes [] l = r2
  generalize hR3 : (if r1 ≠ 0 then r1 else if r2 = true then (4 : Int) else 0) = res
  have HR1 := Lib.hid hR1
  have HR2 := Lib.hid hR2
  have HR3 := Lib.hid hR3
  have HCK := Lib.hid (fun (h : r1 = 0) x (hx : x ∈ l) => (ckView_ok x).1 (eachE_ok.1 (hR1.trans h) x hx))
  clear hr h3 hR1 hR2 hR3 hm hm0 hmc
  go_enter Tryd.func30, Tryd.ntmps30
  go_wp2_with fail
  go_loopg [2, 3] 3 (fun gg _ s3 wr => ∃ k : Nat, k ≤ 3 ∧ 3 - k ≤ gg ∧ s3 = .int .i64 k ∧ Aside (Ext w wr) ∧ Aside (eachE ckView (l.drop k) = r1))
  case atStart => exact ⟨0, by omega, by omega, rfl, Ext.refl _, HR1.out⟩
  case round =>
   obtain ⟨k, hk, hg, rfl, HE, HA⟩ := hrel
   by_cases hlt : k < 3
   ·have hkl : k < l.length := by rw [HL.out]; exact hlt
    have hlt' : (k : Int) < 3 := by omega
    obtain ⟨b, o, rfl, hb, c0, c1, c2⟩ := (HRd.out.ext HE.out).vw_at rfl hkl
    have hA := HA.out
    rw [List.drop_eq_getElem_cons hkl, eachE_cons] at hA
    have hck : ckView l[k] = if within l[k].epoch 0 99 = false ∨ within l[k].leader 0 1 = false then 3 else if l[k].epoch = 0 ∧ l[k].leader ≠ 0 then 4 else 0 := rfl
    have hW0 := fun w => ref_between l[k].epoch 0 99 w
    have hW1 := fun w => ref_between l[k].leader 0 1 w
    generalize ckView l[k] = q at hA hck
    generalize l[k].epoch = x0 at *
    generalize l[k].leader = x1 at *
    generalize l[k].up = x2 at *
    generalize hz0 : within x0 0 99 = z0 at *
    generalize hz1 : within x1 0 1 = z1 at *
    have HW0 := Lib.hid hW0
    have HW1 := Lib.hid hW1
    have HE2 := Lib.hid HE.out
    clear hW0 hW1 HE HA hkl
    by_cases hq : q = 0
    ·have hA2 : eachE ckView (l.drop (k + 1)) = r1 := by rw [if_neg (by simpa using hq)] at hA; exact hA
     have HA2 := Lib.hid hA2
     have hz : z0 = true ∧ z1 = true ∧ ¬ (x0 = 0 ∧ x1 ≠ 0) := by
      rw [hq] at hck
      cases z0 <;> cases z1 <;> simp at hck ⊢
      exact hck
     obtain ⟨rfl, rfl, hz2⟩ := hz
     clear hA hA2 hck hq hz0 hz1
     by_cases hx0 : x0 = 0
     ·have hx1 : x1 = 0 := by
       apply Classical.byContradiction
       intro h
       exact hz2 ⟨hx0, h⟩
      subst hx0 hx1
      clear hz2
      go_wp2_with fail
      refine (HW0.out _).mono ?_
      rintro e w' ⟨rfl, rfl⟩
      go_wp2_with fail
      refine (HW1.out _).mono ?_
      rintro e w' ⟨rfl, rfl⟩
      go_wp2_with fail
      go_roundg (3 - (k + 1))
      case measure => omega
      case rel => exact ⟨k + 1, by omega, by omega, by go_num, (show Ext w _ by exact extA), HA2.out⟩
     ·have hx0b : (x0 == 0) = false := by simpa using hx0
      clear hz2
      go_wp2_with fail
      refine (HW0.out _).mono ?_
      rintro e w' ⟨rfl, rfl⟩
      go_wp2_with fail
      refine (HW1.out _).mono ?_
      rintro e w' ⟨rfl, rfl⟩
      go_wp2_with fail
      go_roundg (3 - (k + 1))
      case measure => omega
      case rel => exact ⟨k + 1, by omega, by omega, by go_num, (show Ext w _ by exact extA), HA2.out⟩
    ·have hA2 : res = q := by rw [if_pos hq] at hA; rw [← HR3.out, ← hA, if_pos hq]
     clear hA HR3 HCK
     cases z0
     ·have hq3 : res = 3 := by rw [hA2, hck]; simp
      have HQ := Lib.hid hq3
      clear hA2 hck hq hq3 hz0 hz1
      go_wp2_with fail
      refine (HW0.out _).mono ?_
      rintro e w' ⟨rfl, rfl⟩
      go_wp2_with fail
      go_ret
      refine ⟨ret_int (by rw [HQ.out]), ?_⟩
      exact extA
     ·cases z1
      ·have hq3 : res = 3 := by rw [hA2, hck]; simp
       have HQ := Lib.hid hq3
       clear hA2 hck hq hq3 hz0 hz1
       go_wp2_with fail
       refine (HW0.out _).mono ?_
       rintro e w' ⟨rfl, rfl⟩
       go_wp2_with fail
       refine (HW1.out _).mono ?_
       rintro e w' ⟨rfl, rfl⟩
       go_wp2_with fail
       go_ret
       refine ⟨ret_int (by rw [HQ.out]), ?_⟩
       exact extA
      ·have hz : x0 = 0 ∧ x1 ≠ 0 := by
        apply Classical.byContradiction
        intro h
        rw [if_neg (by simp), if_neg h] at hck
        exact hq hck
       have hq3 : res = 4 := by rw [hA2, hck, if_neg (by simp), if_pos hz]
       have HQ := Lib.hid hq3
       obtain ⟨hx0, hx1⟩ := hz
       have hx11 : x1 = 1 := by simp [within] at hz1; omega
       subst hx0 hx11
       clear hA2 hck hq hq3 hx1 hz0 hz1
       go_wp2_with fail
       refine (HW0.out _).mono ?_
       rintro e w' ⟨rfl, rfl⟩
       go_wp2_with fail
       refine (HW1.out _).mono ?_
       rintro e w' ⟨rfl, rfl⟩
       go_wp2_with fail
       go_ret
       refine ⟨ret_int (by rw [HQ.out]), ?_⟩
       exact extA
   ·have hk3 : k = 3 := by omega
    subst hk3
    have hr0 : r1 = 0 := by
     have := HA.out
     rw [List.drop_of_length_le (by rw [HL.out]; exact Nat.le_refl _)] at this
     exact this.symm
    have HZ := Lib.hid (show (if r2 = true then (4 : Int) else 0) = res by rw [← HR3.out, hr0]; simp)
    have HE2 := Lib.hid HE.out
    clear HA HE HR3 hr0 HR1 HCK
    go_wp2_with fail
    go_loopg [2, 4, 5] 3 (fun gg _ s4 _ wq => ∃ k : Nat, k ≤ 3 ∧ 3 - k ≤ gg ∧ s4 = .int .i64 k ∧ Aside (Ext w wq) ∧ Aside (clashes (l.take k) (l.drop k) = r2))
    case atStart => exact ⟨0, by omega, by omega, rfl, HE2.out, HR2.out⟩
    case round =>
     obtain ⟨k, hk, hg, rfl, HE, HA⟩ := hrel
     by_cases hlt : k < 3
     ·have hkl : k < l.length := by rw [HL.out]; exact hlt
      have hlt' : (k : Int) < 3 := by omega
      have hA := HA.out
      rw [List.drop_eq_getElem_cons hkl, clashes_cons, ← take_snoc_get l k hkl] at hA
      have HA2 := Lib.hid hA
      have HE3 := Lib.hid HE.out
      clear hA HA HE
      go_wp2_with fail
      go_loopg [2, 5] 3 (fun gg _ s5 wp => ∃ j : Nat, j ≤ k ∧ k - j ≤ gg ∧ s5 = .int .i64 j ∧ Aside (Ext w wp) ∧ Aside ((((l.take k).drop j).any (clash l[k]) || clashes (l.take (k + 1)) (l.drop (k + 1))) = r2))
      case atStart => exact ⟨0, by omega, by omega, rfl, HE3.out, HA2.out⟩
      case round =>
       obtain ⟨j, hj, hgj, rfl, HE, HA⟩ := hrel
       by_cases hjk : j < k
       ·have hjl : j < l.length := by omega
        have hjt : j < (l.take k).length := by rw [List.length_take]; omega
        have hjk' : (j : Int) < (k : Int) := by omega
        have hj3 : (j : Int) < 3 := by omega
        obtain ⟨b, o, rfl, hb, c0, c1, c2⟩ := (HRd.out.ext HE.out).vw_at rfl hkl
        obtain ⟨b', o', hAA, -, d0, d1, d2⟩ := (HRd.out.ext HE.out).vw_at rfl hjl
        injection hAA with hAA
        injection hAA with e1 e2
        subst e1 e2
        have hA := HA.out
        rw [List.drop_eq_getElem_cons hjt, List.any_cons, Bool.or_assoc, List.getElem_take] at hA
        have hcl : clash l[k] l[j] = (l[j].epoch == l[k].epoch && l[j].leader != l[k].leader) := rfl
        rw [hcl] at hA
        have HX := Lib.hid hA
        have HE4 := Lib.hid HE.out
        clear hA HA HE hcl
        generalize l[k].epoch = x0 at *
        generalize l[k].leader = x1 at *
        generalize l[j].epoch = y0 at *
        generalize l[j].leader = y1 at *
        have hA := HX.out
        clear HX c2 d2
        by_cases he : x0 = y0
        ·have heb : (x0 == y0) = true := by simpa using he
         have heb2 : (y0 == x0) = true := by simpa using he.symm
         rw [heb2, Bool.true_and] at hA
         by_cases hld : x1 = y1
         ·have hlb : (x1 != y1) = false := by simpa using hld
          have HN := Lib.hid (show (((l.take k).drop (j + 1)).any (clash l[k]) || clashes (l.take (k + 1)) (l.drop (k + 1))) = r2 by rw [← hA]; simp [hld])
          clear hA he hld
          go_wp2_with fail
          go_quiet (fail)
          go_wp2_with fail
          go_roundg (k - (j + 1))
          case measure => omega
          case rel => exact ⟨j + 1, by omega, by omega, by go_num, HE4.out.drewN _, HN.out⟩
         ·have hlb : (x1 != y1) = true := by simpa using hld
          have hlb2 : (y1 != x1) = true := by simpa using (Ne.symm hld)
          rw [hlb2, Bool.true_or] at hA
          have HQ := Lib.hid (show res = 4 by rw [← HZ.out, ← hA]; simp)
          clear hA he hld
          go_wp2_with fail
          go_quiet (fail)
          go_wp2_with fail
          go_ret
          exact ⟨ret_int (by rw [HQ.out]), HE4.out.drewN _⟩
        ·have heb : (x0 == y0) = false := by simpa using he
         have heb2 : (y0 == x0) = false := by simpa using (Ne.symm he)
         rw [heb2, Bool.false_and, Bool.false_or] at hA
         have HN := Lib.hid hA
         clear hA he
         go_wp2_with fail
         go_quiet (fail)
         go_wp2_with fail
         go_roundg (k - (j + 1))
         case measure => omega
         case rel => exact ⟨j + 1, by omega, by omega, by go_num, HE4.out.drewN _, HN.out⟩
       ·have hjk2 : j = k := by omega
        have HN := Lib.hid (show clashes (l.take (k + 1)) (l.drop (k + 1)) = r2 by
         have := HA.out
         rw [hjk2, List.drop_of_length_le (by rw [List.length_take]; exact Nat.min_le_left _ _)] at this
         simpa using this)
        have hge : ¬ (j : Int) < (k : Int) := by omega
        have HE4 := Lib.hid HE.out
        clear HA HE hjk2
        go_wp2_with fail
        go_roundg (3 - (k + 1))
        case measure => omega
        case rel => exact ⟨k + 1, by omega, by omega, by go_num, HE4.out, HN.out⟩
     ·have hk3 : k = 3 := by omega
      subst hk3
      have HQ := Lib.hid (show res = 0 by
       have := HA.out
       rw [List.drop_of_length_le (by rw [HL.out]; exact Nat.le_refl _)] at this
       rw [← HZ.out, ← this]
       simp [clashes])
      have HE3 := Lib.hid HE.out
      clear HA HE
      go_wp2_with fail
      go_ret
      exact ⟨ret_int (by rw [HQ.out]), HE3.out⟩
 ·rw [if_pos h3]
  have h3b : ((l.length : Int) != 3) = true := by
   have : (l.length : Int) ≠ 3 := by omega
   simpa using this
  clear hr h3
  go_enter Tryd.func30, Tryd.ntmps30
  go_wp2_with fail
  go_ret
  exact ⟨ret_int rfl, Ext.refl _⟩
end Go.Proofs.YteojjbhadgkfgaaDoor
