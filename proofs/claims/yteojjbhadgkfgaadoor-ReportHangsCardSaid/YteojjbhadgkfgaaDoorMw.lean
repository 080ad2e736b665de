/- Mw: parts of the proofs, laid together. -/
import Derived.Lib.SliceRun
import Derived.Lib.Walk
import Derived.BigRegion
import Derived.Test.YteojjbhadgkfgaaDoorMa
import Derived.Test.YteojjbhadgkfgaaDoorMo
/- Views of who leads: the plain side: what is right, who leads, who wins, who is up; laws of these. -/
namespace Lb
set_option linter.unusedVariables false
set_option maxRecDepth 100000
set_option linter.unusedSimpArgs false

def ckView (v : Vw) : Int :=
 if within v.epoch 0 99 = false ∨ within v.leader 0 1 = false then 3 else if v.epoch = 0 ∧ v.leader ≠ 0 then 4 else 0
def clash (v x : Vw) : Bool := x.epoch == v.epoch && x.leader != v.leader
/-- do two of one epoch have not one leader? pre: those ahead -/
def clashes : List Vw → List Vw → Bool
 | _, [] => false
 | pre, v :: l => pre.any (clash v) || clashes (pre ++ [v]) l
theorem clashes_cons (pre : List Vw) (v : Vw) (l : List Vw) : clashes pre (v :: l) = (pre.any (clash v) || clashes (pre ++ [v]) l) := rfl
def ckViews (l : List Vw) : Int :=
 if l.length ≠ 3 then 1 else if eachE ckView l ≠ 0 then eachE ckView l else if clashes [] l = true then 4 else 0
def countV (p : Vw → Bool) : List Vw → Int
 | [] => 0
 | v :: l => (if p v = true then 1 else 0) + countV p l
theorem countV_cons (p : Vw → Bool) (v : Vw) (l : List Vw) : countV p (v :: l) = (if p v = true then 1 else 0) + countV p l := rfl
def topV : Int → List Vw → Int
 | m, [] => m
 | m, v :: l => topV (max m v.epoch) l
def atTop (top : Int) (v : Vw) : Bool := v.epoch == top
def upTop (top : Int) (v : Vw) : Bool := v.epoch == top && v.up
def isUpV (v : Vw) : Bool := v.up
/-- of three views: the leader of the first one of the greatest epoch -/
def whoTop (l : List Vw) : Int := match l.find? (atTop (topV 0 l)) with
 | some v => v.leader
 | none => 0
def isUp (l : List Vw) (i : Int) : Bool := match l[i.toNat]? with
 | some v => v.up
 | none => false
def leads (l : List Vw) : Bool := decide (0 < topV 0 l) && decide (3 < 2 * countV (upTop (topV 0 l)) l) && isUp l (whoTop l)
def whoV (l : List Vw) : Int × Bool := if leads l = true then (whoTop l, true) else (0, false)
def raise (t who : Int) (l : List Vw) : List Vw := l.map fun v => if v.up = true then ⟨t, who, true⟩ else v
def winV (l : List Vw) (who : Int) : List Vw × Bool × Int :=
 if within who 0 1 = false then ([], false, 3)
 else if isUp l who = false ∨ 2 * countV isUpV l ≤ 3 then (l, false, 0)
 else if topV 0 l = 99 then ([], false, 2)
 else (raise (topV 0 l + 1) who l, true, 0)
def setV (l : List Vw) (who : Int) (up : Bool) : List Vw × Int :=
 if within who 0 2 = false then ([], 3) else (l.modify who.toNat (fun v => ⟨v.epoch, v.leader, up⟩), 0)
def nowAll (l : List Vw) : Int × Bool × Int := if ckViews l ≠ 0 then (0, false, ckViews l) else ((whoV l).1, (whoV l).2, 0)
def winAll (l : List Vw) (who : Int) : List Vw × Bool × Int := if ckViews l ≠ 0 then ([], false, ckViews l) else winV l who
def setAll (l : List Vw) (who : Int) (up : Bool) : List Vw × Int := if ckViews l ≠ 0 then ([], ckViews l) else setV l who up

/- the references' way -/
theorem ckView_ok (v : Vw) : ckView v = 0 ↔ 0 ≤ v.epoch ∧ v.epoch ≤ 99 ∧ 0 ≤ v.leader ∧ v.leader ≤ 1 ∧ (v.epoch = 0 → v.leader = 0) := by
 unfold ckView
 by_cases h : within v.epoch 0 99 = false ∨ within v.leader 0 1 = false
 ·rw [if_pos h]
  simp [within] at h
  constructor
  ·intro h; simp at h
  ·omega
 ·rw [if_neg h]
  simp [within] at h
  by_cases h2 : v.epoch = 0 ∧ v.leader ≠ 0
  ·rw [if_pos h2]
   constructor
   ·intro h; simp at h
   ·rintro ⟨-, -, -, -, h3⟩; exact absurd (h3 h2.1) h2.2
  ·rw [if_neg h2]
   simp only [true_iff]
   refine ⟨by omega, by omega, by omega, by omega, fun h3 => ?_⟩
   apply Classical.byContradiction
   intro h4
   exact h2 ⟨h3, h4⟩
theorem clashes_ok (l pre : List Vw) (hp : ∀ v ∈ pre, ∀ x ∈ pre, x.epoch = v.epoch → x.leader = v.leader) : clashes pre l = false ↔ ∀ v ∈ pre ++ l, ∀ x ∈ pre ++ l, x.epoch = v.epoch → x.leader = v.leader := by
 induction l generalizing pre with
 | nil => simpa [clashes] using hp
 | cons v l ih =>
  rw [clashes_cons, Bool.or_eq_false_iff, List.any_eq_false]
  have hcl : ∀ x, clash v x = true ↔ x.epoch = v.epoch ∧ x.leader ≠ v.leader := by intro x; simp [clash]
  constructor
  ·rintro ⟨h1, h2⟩
   have hp2 : ∀ a ∈ pre ++ [v], ∀ x ∈ pre ++ [v], x.epoch = a.epoch → x.leader = a.leader := by
    intro a ha x hx hxa
    simp only [List.mem_append, List.mem_singleton] at ha hx
    rcases ha with ha | rfl <;> rcases hx with hx | rfl
    ·exact hp a ha x hx hxa
    ·have := h1 a ha
     rw [hcl] at this
     apply Classical.byContradiction
     intro h
     exact this ⟨hxa.symm, fun e => h e.symm⟩
    ·have := h1 x hx
     rw [hcl] at this
     apply Classical.byContradiction
     intro h
     exact this ⟨hxa, h⟩
    ·rfl
   have := (ih (pre ++ [v]) hp2).1 h2
   simpa using this
  ·intro h
   have h' : ∀ a ∈ (pre ++ [v]) ++ l, ∀ x ∈ (pre ++ [v]) ++ l, x.epoch = a.epoch → x.leader = a.leader := by simpa using h
   refine ⟨fun x hx => ?_, (ih (pre ++ [v]) (fun a ha x hx => h' a (by simp only [List.mem_append] at ha ⊢; exact .inl ha) x (by simp only [List.mem_append] at hx ⊢; exact .inl hx))).2 h'⟩
   rw [hcl]
   rintro ⟨e1, e2⟩
   exact e2 (h v (by simp) x (by simp [hx]) e1)
def RightV (l : List Vw) : Prop := l.length = 3 ∧ (∀ v ∈ l, ckView v = 0) ∧ (∀ v ∈ l, ∀ x ∈ l, x.epoch = v.epoch → x.leader = v.leader)
theorem rightV_iff (l : List Vw) : ckViews l = 0 ↔ RightV l := by
 unfold ckViews RightV
 have hc := clashes_ok l [] (by simp)
 simp only [List.nil_append] at hc
 by_cases h3 : l.length = 3
 ·rw [if_neg (by simpa using h3)]
  by_cases he : eachE ckView l = 0
  ·rw [if_neg (by simpa using he)]
   have he2 := eachE_ok.1 he
   cases hcl : clashes [] l with
   | true =>
    simp only [if_true]
    constructor
    ·intro h; simp at h
    ·rintro ⟨-, -, h⟩
     rw [hc.2 h] at hcl
     cases hcl
   | false => exact ⟨fun _ => ⟨h3, he2, hc.1 hcl⟩, fun _ => rfl⟩
  ·rw [if_pos he]
   constructor
   ·intro h; exact absurd h he
   ·rintro ⟨-, h, -⟩; exact absurd (eachE_ok.2 h) he
 ·rw [if_pos h3]
  constructor
  ·intro h; simp at h
  ·rintro ⟨h, -, -⟩; exact absurd h h3

theorem topV_ge (m : Int) (l : List Vw) : m ≤ topV m l := by
 induction l generalizing m with
 | nil => exact Int.le_refl _
 | cons v l ih => have := ih (max m v.epoch); unfold topV; omega
theorem le_topV (m : Int) (l : List Vw) : ∀ v ∈ l, v.epoch ≤ topV m l := by
 induction l generalizing m with
 | nil => simp
 | cons x l ih =>
  intro v hv
  unfold topV
  rcases List.mem_cons.1 hv with rfl | hv
  ·have := topV_ge (max m v.epoch) l; omega
  ·exact ih _ v hv
theorem topV_le (m M : Int) (l : List Vw) (hm : m ≤ M) (h : ∀ v ∈ l, v.epoch ≤ M) : topV m l ≤ M := by
 induction l generalizing m with
 | nil => exact hm
 | cons x l ih =>
  unfold topV
  have := h x (by simp)
  exact ih _ (by omega) (fun v hv => h v (by simp [hv]))
theorem topV_mem (m : Int) (l : List Vw) : topV m l = m ∨ ∃ v ∈ l, v.epoch = topV m l := by
 induction l generalizing m with
 | nil => exact .inl rfl
 | cons x l ih =>
  unfold topV
  rcases ih (max m x.epoch) with h | ⟨v, hv, h⟩
  ·rw [h]
   by_cases hx : m ≤ x.epoch
   ·exact .inr ⟨x, by simp, by omega⟩
   ·exact .inl (by omega)
  ·exact .inr ⟨v, by simp [hv], h⟩
theorem whoTop_eq {l : List Vw} {L : Int} (he : ∃ v ∈ l, v.epoch = topV 0 l) (hL : ∀ v ∈ l, v.epoch = topV 0 l → v.leader = L) : whoTop l = L := by
 unfold whoTop
 cases hf : l.find? (atTop (topV 0 l)) with
 | none =>
  obtain ⟨v, hv, h⟩ := he
  rw [List.find?_eq_none] at hf
  have := hf v hv
  simp [atTop, h] at this
 | some v =>
  have h1 := List.find?_some hf
  have h2 := List.mem_of_find?_eq_some hf
  simp only [atTop, beq_iff_eq] at h1
  exact hL v h2 h1
end Lb

/- Views: laws of winning, and of being up or not. -/
namespace Lb
set_option linter.unusedVariables false
set_option maxRecDepth 100000
set_option linter.unusedSimpArgs false

theorem countV_nonneg (p : Vw → Bool) (l : List Vw) : 0 ≤ countV p l := by
 induction l with
 | nil => exact Int.le_refl _
 | cons x l ih => rw [countV_cons]; split <;> omega
theorem raise_length (t who : Int) (l : List Vw) : (raise t who l).length = l.length := by simp [raise]
theorem raise_get {t who : Int} {l : List Vw} {i : Nat} {v : Vw} (h : l[i]? = some v) : (raise t who l)[i]? = some (if v.up = true then ⟨t, who, true⟩ else v) := by
 unfold raise
 rw [List.getElem?_map, h]
 rfl
theorem top_lt {l : List Vw} (hr : RightV l) (h : topV 0 l ≠ 99) : topV 0 l ≤ 98 ∧ 0 ≤ topV 0 l := by
 have h1 := topV_le 0 99 l (by omega) (fun v hv => ((ckView_ok v).1 (hr.2.1 v hv)).2.1)
 have h2 := topV_ge 0 l
 omega
/-- two lists of views that are alike but for who is up -/
def Alike (l m : List Vw) : Prop := l.length = m.length ∧ ∀ i (h1 : i < l.length) (h2 : i < m.length), l[i].epoch = m[i].epoch ∧ l[i].leader = m[i].leader
theorem Alike.mem {l m : List Vw} (h : Alike l m) {v : Vw} (hv : v ∈ l) : ∃ x ∈ m, v.epoch = x.epoch ∧ v.leader = x.leader := by
 obtain ⟨i, hi, rfl⟩ := List.mem_iff_getElem.1 hv
 have hi2 : i < m.length := by rw [← h.1]; exact hi
 exact ⟨m[i], List.getElem_mem hi2, h.2 i hi hi2⟩
theorem Alike.symm {l m : List Vw} (h : Alike l m) : Alike m l := ⟨h.1.symm, fun i h1 h2 => ⟨(h.2 i h2 h1).1.symm, (h.2 i h2 h1).2.symm⟩⟩
theorem Alike.right {l m : List Vw} (h : Alike l m) (hr : RightV m) : RightV l := by
 refine ⟨h.1.trans hr.1, fun v hv => ?_, fun v hv x hx hxe => ?_⟩
 ·obtain ⟨y, hy, e1, e2⟩ := h.mem hv
  have := (ckView_ok y).1 (hr.2.1 y hy)
  rw [ckView_ok, e1, e2]
  exact this
 ·obtain ⟨y, hy, e1, e2⟩ := h.mem hv
  obtain ⟨z, hz, e3, e4⟩ := h.mem hx
  rw [e2, e4]
  exact hr.2.2 y hy z hz (by rw [← e1, ← e3]; exact hxe)
theorem Alike.top {l m : List Vw} (h : Alike l m) : topV 0 l = topV 0 m := by
 have h1 := topV_le 0 (topV 0 m) l (topV_ge 0 m) (fun v hv => by
  obtain ⟨y, hy, e1, -⟩ := h.mem hv
  rw [e1]; exact le_topV 0 m y hy)
 have h2 := topV_le 0 (topV 0 l) m (topV_ge 0 l) (fun v hv => by
  obtain ⟨y, hy, e1, -⟩ := h.symm.mem hv
  rw [e1]; exact le_topV 0 l y hy)
 omega
theorem Alike.who {l m : List Vw} {L : Int} (h : Alike l m) (he : ∃ v ∈ m, v.epoch = topV 0 m) (hL : ∀ v ∈ m, v.epoch = topV 0 m → v.leader = L) : whoTop l = L := by
 obtain ⟨v, hv, hve⟩ := he
 obtain ⟨x, hx, e1, e2⟩ := h.symm.mem hv
 refine whoTop_eq ⟨x, hx, by rw [h.top, ← e1]; exact hve⟩ (fun y hy hye => ?_)
 obtain ⟨z, hz, e3, e4⟩ := h.mem hy
 rw [e4]
 exact hL z hz (by rw [← e3, ← h.top]; exact hye)
end Lb

/- Views of who leads: the closures over one view. -/
namespace Go.Proofs.YteojjbhadgkfgaaDoor
set_option linter.unusedSimpArgs false
set_option linter.unusedVariables false
set_option maxRecDepth 100000
open Go Go.RowKit Lb

theorem lead_within (n a b : Int) (w : World) :
  Calls Tryd.prog 68 #[.int .i64 n, .int .i64 a, .int .i64 b] w fun e w' => e = .returned (.bool (within n a b)) ∧ w = w' := by
 go_enter Tryd.func68, Tryd.ntmps68
 go_wp2
 all_goals
  go_ret
  exact ⟨ret_bool (by simp [within, *] <;> omega), rfl⟩

theorem lead_Check1 (x v : Vw) (g : Nat) (w : World) (hr : Row w g (vwc v)) :
  Calls Tryd.prog 70 #[.agg (vwc x), .pointer (some ⟨g, 0, none⟩)] w fun e w' => e = .returned (.bool (clash v x)) ∧ Ext w w' := by
 obtain ⟨x0, x1, x2⟩ := x
 obtain ⟨v0, v1, v2⟩ := v
 unfold vwc at hr ⊢
 apply Row.use hr; intro q f l R
 clear hr
 go_enter Tryd.func70, Tryd.ntmps70
 go_wp2
 all_goals
  go_ret
  refine ⟨ret_bool ?_, ?_⟩
  ·simp_all [clash]
  ·exact extA
theorem lead_Who1 (x : Vw) (top : Int) (g : Nat) (w : World) (hr : Row w g #[.int .i64 top]) :
  Calls Tryd.prog 55 #[.agg (vwc x), .pointer (some ⟨g, 0, none⟩)] w fun e w' => e = .returned (.bool (atTop top x)) ∧ Ext w w' := by
 obtain ⟨x0, x1, x2⟩ := x
 unfold vwc
 apply Row.use hr; intro q f l R
 clear hr
 go_enter Tryd.func55, Tryd.ntmps55
 go_wp2
 all_goals
  go_ret
  refine ⟨ret_bool ?_, ?_⟩
  ·simp_all [atTop]
  ·exact extA
theorem lead_Who2 (x : Vw) (top : Int) (g : Nat) (w : World) (hr : Row w g #[.int .i64 top]) :
  Calls Tryd.prog 57 #[.agg (vwc x), .pointer (some ⟨g, 0, none⟩)] w fun e w' => e = .returned (.bool (upTop top x)) ∧ Ext w w' := by
 obtain ⟨x0, x1, x2⟩ := x
 unfold vwc
 apply Row.use hr; intro q f l R
 clear hr
 go_enter Tryd.func57, Tryd.ntmps57
 go_wp2
 all_goals
  go_ret
  refine ⟨ret_bool ?_, ?_⟩
  ·simp_all [upTop]
  ·exact extA
theorem lead_Raw1 (x : Vw) (w : World) :
  Calls Tryd.prog 85 #[.agg (vwc x)] w fun e w' => e = .returned (.bool x.up) ∧ Ext w w' := by
 obtain ⟨x0, x1, x2⟩ := x
 unfold vwc
 go_enter Tryd.func85, Tryd.ntmps85
 go_wp2
 all_goals
  go_ret
  refine ⟨rfl, ?_⟩
  exact extA
end Go.Proofs.YteojjbhadgkfgaaDoor

/- slices.IndexFunc and ContainsFunc over views, at whatever predicate. -/
namespace Go.Proofs.YteojjbhadgkfgaaDoor
set_option linter.unusedSimpArgs false
set_option linter.unusedVariables false
set_option maxRecDepth 100000
open Go Go.RowKit Lb

set_option maxHeartbeats 2000000 in
theorem IndexFunc_view (p : Vw → Bool) (g : Nat) (lb : Array Value) (eg : ∀ args w, (callFunc g args).run Tryd.prog w = .ok (.enter g args) w) (l : List Vw) (v : Value) (w : World) (hr : RdL 3 vwc w v l)
  (hp : ∀ W x, Ext w W → Calls Tryd.prog g (#[.agg (vwc x)] ++ lb) W fun e w' => e = .returned (.bool (p x)) ∧ Ext W w') :
  Calls Tryd.prog 54 #[v, .func (.func g) #[] lb] w fun e w' => e = .returned (.int .i64 (ixBy p l)) ∧ Ext w w' := by
 obtain ⟨A, c, rfl, h1, h2, h3⟩ := hr
 have hm : l.length ≤ 9223372036854775807 := by unfold maxLen at h2; omega
 have H3 := Lib.hid h3
 have HP := Lib.hid hp
 clear h3 h1 h2 hp
 go_enter Tryd.func54, Tryd.ntmps54
 go_wp2
 go_loopg [4, 5, 8] l.length (fun gg _ _ s8 wr => ∃ k : Nat, k ≤ l.length ∧ l.length - k ≤ gg ∧ s8 = .int .i64 k ∧ Aside (Ext w wr) ∧ Aside (∀ j (hj : j < k), (h : j < l.length) → p l[j] = false))
 case atStart => exact ⟨0, Nat.zero_le _, by omega, rfl, Ext.refl _, fun j hj => by omega⟩
 case round =>
  obtain ⟨k, hk, hg, rfl, HE, HA⟩ := hrel
  by_cases hlt : k < l.length
  ·obtain ⟨b, o, rfl, hb, hc⟩ := H3.out (by omega)
   have hbr : b < wr.heap.size := Nat.lt_of_lt_of_le hb HE.out.size
   have hcr : ∀ i u, (vwc l[k]!)[i]? = some u → wr.cell? ⟨b, o + k * 3 + i, none⟩ = some u := fun i u hu => (HE.out.cells b _ hb).trans (hc k hlt i u hu)
   clear hc
   have hkk : l[k]! = l[k] := by simp [hlt]
   rw [hkk] at hcr
   have HL := Lib.hid hlt
   have hlt' : (k : Int) < (l.length : Int) := by omega
   generalize hX : l[k] = x at hcr
   have HX := Lib.hid hX
   clear hX hkk
   have hcall := HP.out wr x HE.out
   obtain ⟨x0, x1, x2⟩ := x
   have c0 := hcr 0 _ rfl
   have c1 := hcr 1 _ rfl
   have c2 := hcr 2 _ rfl
   simp only [Nat.add_zero] at c0
   clear hcr
   unfold vwc at hcall
   cases hq : p ⟨x0, x1, x2⟩ with
   | true =>
    rw [hq] at hcall
    have HC := Lib.hid hcall
    have HQ := Lib.hid hq
    clear hcall hq
    go_wp2_with (go_at_fn g; refine (HC.out).mono ?_; rintro e w1 ⟨rfl, h1⟩)
    go_ret
    refine ⟨ret_int ?_, HE.out.trans h1⟩
    unfold ixBy
    rw [findIdx_some HL.out (fun j hj => HA.out j hj (by omega)) (by have := HQ.out; rw [← HX.out] at this; exact this)]
   | false =>
    rw [hq] at hcall
    have HC := Lib.hid hcall
    have HQ := Lib.hid hq
    clear hcall hq
    go_wp2_with (go_at_fn g; refine (HC.out).mono ?_; rintro e w1 ⟨rfl, h1⟩)
    go_roundg (l.length - (k + 1))
    case measure => omega
    case rel =>
     refine ⟨k + 1, by omega, by omega, by go_num, HE.out.trans h1, fun j hj h => ?_⟩
     by_cases e : j = k
     ·subst e; have := HQ.out; rw [← HX.out] at this; exact this
     ·exact HA.out j (by omega) h
  ·have hkl : k = l.length := by omega
   have hge : ¬ (k : Int) < (l.length : Int) := by omega
   have HK := Lib.hid hkl
   clear hkl
   go_wp2
   go_ret
   refine ⟨ret_int ?_, HE.out⟩
   unfold ixBy
   rw [findIdx_none (fun j hj => HA.out j (by have := HK.out; omega) hj)]

set_option maxHeartbeats 2000000 in
theorem ContainsFunc_view (p : Vw → Bool) (g : Nat) (lb : Array Value) (eg : ∀ args w, (callFunc g args).run Tryd.prog w = .ok (.enter g args) w) (l : List Vw) (v : Value) (w : World) (hr : RdL 3 vwc w v l)
  (hp : ∀ W x, Ext w W → Calls Tryd.prog g (#[.agg (vwc x)] ++ lb) W fun e w' => e = .returned (.bool (p x)) ∧ Ext W w') :
  Calls Tryd.prog 69 #[v, .func (.func g) #[] lb] w fun e w' => e = .returned (.bool (l.any p)) ∧ Ext w w' := by
 have hi := IndexFunc_view p g lb eg l v w hr hp
 rw [← ixBy_any]
 generalize ixBy p l = r at hi
 have HI := Lib.hid hi
 clear hi hp hr eg
 go_enter Tryd.func69, Tryd.ntmps69
 go_wp2_with fail
 refine (HI.out).mono ?_
 rintro e w1 ⟨rfl, h1⟩
 have H1 := Lib.hid h1
 clear h1
 go_wp2_with fail
 all_goals
  go_ret
  exact ⟨ret_bool (by simp_all), H1.out⟩
end Go.Proofs.YteojjbhadgkfgaaDoor

/- lead.Check. -/
namespace Go.Proofs.YteojjbhadgkfgaaDoor
set_option linter.unusedSimpArgs false
set_option linter.unusedVariables false
set_option maxRecDepth 100000
open Go Go.RowKit Lb

theorem RdL.vw_at {w : World} {v : Value} {l : List Vw} (h : RdL 3 vwc w v l) {A : Option Addr} {n c : Nat} (hv : v = .slice A n c) {k : Nat} (hk : k < l.length) : ∃ b o, A = some ⟨b, o, none⟩ ∧ b < w.heap.size ∧
  w.cell? ⟨b, o + k * 3, none⟩ = some (.int .i64 l[k].epoch) ∧ w.cell? ⟨b, o + k * 3 + 1, none⟩ = some (.int .i64 l[k].leader) ∧ w.cell? ⟨b, o + k * 3 + 2, none⟩ = some (.bool l[k].up) := by
 subst hv
 obtain ⟨b, o, c', hv, hb, hc⟩ := h.at_ hk
 injection hv with hA
 exact ⟨b, o, hA, hb, hc 0 _ rfl, hc 1 _ rfl, hc 2 _ rfl⟩
theorem any_clash (w : World) (v : Vw) (g : Nat) (l : List Vw) (s : Value) (hr : RdL 3 vwc w s l) (hg : Row w g (vwc v)) :
  Calls Tryd.prog 69 #[s, .func (.func 70) #[] #[.pointer (some ⟨g, 0, none⟩)]] w fun e w' => e = .returned (.bool (l.any (clash v))) ∧ Ext w w' :=
 ContainsFunc_view (clash v) 70 #[.pointer (some ⟨g, 0, none⟩)] (fun args w => by simp [go_sem]) l s w hr (fun W x h => lead_Check1 x v g W (hg.ext h))

set_option maxRecDepth 100000 in
set_option maxHeartbeats 4000000 in
theorem lead_Check (l : List Vw) (v : Value) (w : World) (hr : RdL 3 vwc w v l) :
  Calls Tryd.prog 43 #[v] w fun e w' => e = .returned (.int .i64 (ckViews l)) ∧ Ext w w' := by
 obtain ⟨A, c, rfl, hmc, hm0⟩ := hr.form
 have hm : l.length ≤ 9223372036854775807 := by unfold maxLen at hm0; omega
 unfold ckViews
 by_cases h3 : l.length = 3
 ·rw [if_neg (by simpa using h3), h3]
  rw [h3] at hr
  have HRd := Lib.hid hr
  have HL := Lib.hid h3
  have h3c : 3 ≤ c := by omega
  generalize hR1 : eachE ckView l = r1
  generalize hR2 : clashes [] l = r2
  generalize hR3 : (if r1 ≠ 0 then r1 else if r2 = true then (4 : Int) else 0) = res
  have HR1 := Lib.hid hR1
  have HR2 := Lib.hid hR2
  have HR3 := Lib.hid hR3
  clear hr h3 hR1 hR2 hR3 hm hm0 hmc
  go_enter Tryd.func43, Tryd.ntmps43
  go_wp2_with fail
  go_loopg [2, 4, 12] 3 (fun gg _ _ s12 wr => ∃ k : Nat, k ≤ 3 ∧ 3 - k ≤ gg ∧ s12 = .int .i64 k ∧ Aside (Ext w wr) ∧ Aside (eachE ckView (l.drop k) = r1))
  case atStart => exact ⟨0, by omega, by omega, rfl, Ext.refl _, HR1.out⟩
  case round =>
   obtain ⟨k, hk, hg, rfl, HE, HA⟩ := hrel
   by_cases hlt : k < 3
   ·have hkl : k < l.length := by rw [HL.out]; exact hlt
    have hlt' : (k : Int) < 3 := by omega
    obtain ⟨b, o, rfl, hb, c0, c1, c2⟩ := (HRd.out.ext HE.out).vw_at rfl hkl
    have hA := HA.out
    rw [List.drop_eq_getElem_cons hkl, eachE_cons] at hA
    have hck : ckView l[k] = if within l[k].epoch 0 99 = false ∨ within l[k].leader 0 1 = false then 3 else if l[k].epoch = 0 ∧ l[k].leader ≠ 0 then 4 else 0 := rfl
    have hW0 := fun w => lead_within l[k].epoch 0 99 w
    have hW1 := fun w => lead_within l[k].leader 0 1 w
    generalize ckView l[k] = q at hA hck
    generalize l[k].epoch = x0 at *
    generalize l[k].leader = x1 at *
    generalize l[k].up = x2 at *
    generalize within x0 0 99 = z0 at *
    generalize within x1 0 1 = z1 at *
    have HW0 := Lib.hid hW0
    have HW1 := Lib.hid hW1
    have HE2 := Lib.hid HE.out
    clear hW0 hW1 HE HA hkl
    by_cases hq : q = 0
    ·have hA2 : eachE ckView (l.drop (k + 1)) = r1 := by rw [if_neg (by simpa using hq)] at hA; exact hA
     have HA2 := Lib.hid hA2
     have hz : z0 = true ∧ z1 = true ∧ ¬ (x0 = 0 ∧ x1 ≠ 0) := by
      rw [hq] at hck
      cases z0 <;> cases z1 <;> simp at hck ⊢
      exact hck
     obtain ⟨rfl, rfl, hz2⟩ := hz
     clear hA hA2 hck hq
     by_cases hx0 : x0 = 0
     ·have hx1 : x1 = 0 := by
       apply Classical.byContradiction
       intro h
       exact hz2 ⟨hx0, h⟩
      subst hx0 hx1
      clear hz2
      go_wp2_with fail
      refine (HW0.out _).mono ?_
      rintro e w' ⟨rfl, rfl⟩
      go_wp2_with fail
      refine (HW1.out _).mono ?_
      rintro e w' ⟨rfl, rfl⟩
      go_wp2_with fail
      go_roundg (3 - (k + 1))
      case measure => omega
      case rel => exact ⟨k + 1, by omega, by omega, by go_num, (show Ext w _ by exact extA), HA2.out⟩
     ·have hx0b : (x0 == 0) = false := by simpa using hx0
      clear hz2
      go_wp2_with fail
      refine (HW0.out _).mono ?_
      rintro e w' ⟨rfl, rfl⟩
      go_wp2_with fail
      refine (HW1.out _).mono ?_
      rintro e w' ⟨rfl, rfl⟩
      go_wp2_with fail
      go_roundg (3 - (k + 1))
      case measure => omega
      case rel => exact ⟨k + 1, by omega, by omega, by go_num, (show Ext w _ by exact extA), HA2.out⟩
    ·have hA2 : res = q := by rw [if_pos hq] at hA; rw [← HR3.out, ← hA, if_pos hq]
     clear hA HR3
     cases z0
     ·have hq3 : res = 3 := by rw [hA2, hck]; simp
      have HQ := Lib.hid hq3
      clear hA2 hck hq hq3
      go_wp2_with fail
      refine (HW0.out _).mono ?_
      rintro e w' ⟨rfl, rfl⟩
      go_wp2_with fail
      go_ret
      refine ⟨ret_int (by rw [HQ.out]), ?_⟩
      exact extA
     ·cases z1
      ·have hq3 : res = 3 := by rw [hA2, hck]; simp
       have HQ := Lib.hid hq3
       clear hA2 hck hq hq3
       go_wp2_with fail
       refine (HW0.out _).mono ?_
       rintro e w' ⟨rfl, rfl⟩
       go_wp2_with fail
       refine (HW1.out _).mono ?_
       rintro e w' ⟨rfl, rfl⟩
       go_wp2_with fail
       go_ret
       refine ⟨ret_int (by rw [HQ.out]), ?_⟩
       exact extA
      ·have hz : x0 = 0 ∧ x1 ≠ 0 := by
        apply Classical.byContradiction
        intro h
        rw [if_neg (by simp), if_neg h] at hck
        exact hq hck
       have hq3 : res = 4 := by rw [hA2, hck, if_neg (by simp), if_pos hz]
       have HQ := Lib.hid hq3
       obtain ⟨hx0, hx1⟩ := hz
       have hx1b : (x1 != 0) = true := by simpa using hx1
       subst hx0
       clear hA2 hck hq hq3 hx1
       go_wp2_with fail
       refine (HW0.out _).mono ?_
       rintro e w' ⟨rfl, rfl⟩
       go_wp2_with fail
       refine (HW1.out _).mono ?_
       rintro e w' ⟨rfl, rfl⟩
       go_wp2_with fail
       go_ret
       refine ⟨ret_int (by rw [HQ.out]), ?_⟩
       exact extA
   ·have hk3 : k = 3 := by omega
    subst hk3
    have hr0 : r1 = 0 := by
     have := HA.out
     rw [List.drop_of_length_le (by rw [HL.out]; exact Nat.le_refl _)] at this
     exact this.symm
    have HZ := Lib.hid (show (if r2 = true then (4 : Int) else 0) = res by rw [← HR3.out, hr0]; simp)
    have HE2 := Lib.hid HE.out
    clear HA HE HR3 hr0 HR1
    go_wp2_with fail
    go_loopg [2, 5, 6, 39] 3 (fun gg _ _ _ s39 wq => ∃ k : Nat, k ≤ 3 ∧ 3 - k ≤ gg ∧ s39 = .int .i64 k ∧ Aside (Ext w wq) ∧ Aside (clashes (l.take k) (l.drop k) = r2))
    case atStart => exact ⟨0, by omega, by omega, rfl, HE2.out, HR2.out⟩
    case round =>
     obtain ⟨k, hk, hg, rfl, HE, HA⟩ := hrel
     by_cases hlt : k < 3
     ·have hkl : k < l.length := by rw [HL.out]; exact hlt
      have hlt' : (k : Int) < 3 := by omega
      have hle' : (k : Int) ≤ (c : Int) := by omega
      obtain ⟨b, o, rfl, hb, c0, c1, c2⟩ := (HRd.out.ext HE.out).vw_at rfl hkl
      have hA := HA.out
      rw [List.drop_eq_getElem_cons hkl, clashes_cons, ← take_snoc_get l k hkl] at hA
      have hRT := (HRd.out).take k (by omega)
      have HAN := Lib.hid (fun (W : World) (g : Nat) (h : Ext w W) (hg : Row W g (vwc l[k])) => any_clash W l[k] g (l.take k) _ (hRT.ext h) hg)
      generalize l[k] = x at *
      generalize (l.take k).any (clash x) = q at *
      obtain ⟨x0, x1, x2⟩ := x
      simp only at c0 c1 c2
      unfold vwc at HAN
      have HE3 := Lib.hid HE.out
      have hlk : (l.take k).length = k := by rw [List.length_take, HL.out]; omega
      clear HE HA hRT hkl hlk
      cases q
      ·rw [Bool.false_or] at hA
       have HA2 := Lib.hid hA
       clear hA
       go_wp2_with fail
       refine (HAN.out _ _ (by exact extA) (Row.newAt rfl)).mono ?_
       rintro e w1 ⟨rfl, h1⟩
       have H1 := Lib.hid h1
       clear h1
       go_wp2_with fail
       go_roundg (3 - (k + 1))
       case measure => omega
       case rel => exact ⟨k + 1, by omega, by omega, by go_num, (show Ext w _ by exact extA), HA2.out⟩
      ·rw [Bool.true_or] at hA
       have HQ := Lib.hid (show res = 4 by rw [← HZ.out, ← hA]; simp)
       clear hA
       go_wp2_with fail
       refine (HAN.out _ _ (by exact extA) (Row.newAt rfl)).mono ?_
       rintro e w1 ⟨rfl, h1⟩
       have H1 := Lib.hid h1
       clear h1
       go_wp2_with fail
       go_ret
       refine ⟨ret_int (by rw [HQ.out]), ?_⟩
       exact extA
     ·have hk3 : k = 3 := by omega
      subst hk3
      have HQ := Lib.hid (show res = 0 by
       have := HA.out
       rw [List.drop_of_length_le (by rw [HL.out]; exact Nat.le_refl _)] at this
       rw [← HZ.out, ← this]
       simp [clashes])
      have HE3 := Lib.hid HE.out
      clear HA HE
      go_wp2_with fail
      go_ret
      exact ⟨ret_int (by rw [HQ.out]), HE3.out⟩
 ·rw [if_pos h3]
  have h3b : ((l.length : Int) != 3) = true := by
   have : (l.length : Int) ≠ 3 := by omega
   simpa using this
  clear hr h3
  go_enter Tryd.func43, Tryd.ntmps43
  go_wp2_with fail
  go_ret
  exact ⟨ret_int rfl, Ext.refl _⟩
end Go.Proofs.YteojjbhadgkfgaaDoor

/- lead: many, greatest, Who, Now. -/
namespace Go.Proofs.YteojjbhadgkfgaaDoor
set_option linter.unusedSimpArgs false
set_option linter.unusedVariables false
set_option maxRecDepth 100000
open Go Go.RowKit Lb

set_option maxHeartbeats 2000000 in
theorem lead_many (p : Vw → Bool) (g : Nat) (lb : Array Value) (eg : ∀ args w, (callFunc g args).run Tryd.prog w = .ok (.enter g args) w) (l : List Vw) (v : Value) (w : World) (hr : RdL 3 vwc w v l) (h3 : l.length = 3)
  (hp : ∀ W x, Ext w W → Calls Tryd.prog g (#[.agg (vwc x)] ++ lb) W fun e w' => e = .returned (.bool (p x)) ∧ Ext W w') :
  Calls Tryd.prog 56 #[v, .func (.func g) #[] lb] w fun e w' => e = .returned (.int .i64 (countV p l)) ∧ Ext w w' := by
 obtain ⟨A, c, rfl, hmc, hm0⟩ := hr.form
 rw [h3] at hr ⊢
 have HRd := Lib.hid hr
 have HL := Lib.hid h3
 have HP := Lib.hid hp
 generalize hR : countV p l = r
 have HR := Lib.hid hR
 clear hr h3 hp hmc hm0 hR
 go_enter Tryd.func56, Tryd.ntmps56
 go_wp2_with fail
 go_loopg [5, 7, 10] 3 (fun gg s5 _ s10 wr => ∃ (k : Nat) (n : Int), k ≤ 3 ∧ 3 - k ≤ gg ∧ s5 = .int .i64 n ∧ s10 = .int .i64 k ∧ 0 ≤ n ∧ n ≤ k ∧ Aside (Ext w wr) ∧ Aside (n + countV p (l.drop k) = r))
 case atStart => exact ⟨0, 0, by omega, by omega, rfl, rfl, by omega, by omega, Ext.refl _, by rw [Int.zero_add]; exact HR.out⟩
 case round =>
  obtain ⟨k, n, hk, hg, rfl, rfl, hn0, hnk, HE, HA⟩ := hrel
  by_cases hlt : k < 3
  ·have hkl : k < l.length := by rw [HL.out]; exact hlt
   have hlt' : (k : Int) < 3 := by omega
   obtain ⟨b, o, rfl, hb, c0, c1, c2⟩ := (HRd.out.ext HE.out).vw_at rfl hkl
   have hA := HA.out
   rw [List.drop_eq_getElem_cons hkl, countV_cons] at hA
   have hcall := HP.out
   generalize l[k] = x at *
   have hcx := fun W h => hcall W x h
   generalize p x = q at *
   obtain ⟨x0, x1, x2⟩ := x
   simp only at c0 c1 c2
   unfold vwc at hcx
   have HC := Lib.hid hcx
   have HE2 := Lib.hid HE.out
   have hw1 : IntKind.i64.wrap (n + 1) = n + 1 := IntWalk.i64_in _ (by omega)
   clear hcall hcx HE HA hkl
   cases q
   ·have HA2 := Lib.hid (show n + countV p (l.drop (k + 1)) = r by simpa using hA)
    clear hA
    go_wp2_with (go_at_fn g; refine (HC.out _ (by exact extA)).mono ?_; rintro e w1 ⟨rfl, h1⟩; have H1 := Lib.hid h1; clear h1)
    go_roundg (3 - (k + 1))
    case measure => omega
    case rel => exact ⟨k + 1, n, by omega, by omega, rfl, by go_num, by omega, by push_cast; omega, (show Ext w _ by exact extA), HA2.out⟩
   ·have HA2 := Lib.hid (show n + 1 + countV p (l.drop (k + 1)) = r by simp at hA; omega)
    clear hA
    go_wp2_with (go_at_fn g; refine (HC.out _ (by exact extA)).mono ?_; rintro e w1 ⟨rfl, h1⟩; have H1 := Lib.hid h1; clear h1)
    go_roundg (3 - (k + 1))
    case measure => omega
    case rel => exact ⟨k + 1, n + 1, by omega, by omega, by go_num, by go_num, by omega, by push_cast; omega, (show Ext w _ by exact extA), HA2.out⟩
  ·have hk3 : k = 3 := by omega
   subst hk3
   have HQ := Lib.hid (show n = r by
    have := HA.out
    rw [List.drop_of_length_le (by rw [HL.out]; exact Nat.le_refl _)] at this
    simpa [countV] using this)
   have HE3 := Lib.hid HE.out
   clear HA HE
   go_wp2_with fail
   go_ret
   exact ⟨ret_int (by rw [HQ.out]), HE3.out⟩

set_option maxHeartbeats 2000000 in
theorem lead_greatest (l : List Vw) (v : Value) (w : World) (hr : RdL 3 vwc w v l) (h3 : l.length = 3) :
  Calls Tryd.prog 53 #[v] w fun e w' => e = .returned (.int .i64 (topV 0 l)) ∧ Ext w w' := by
 obtain ⟨A, c, rfl, hmc, hm0⟩ := hr.form
 rw [h3] at hr ⊢
 have HRd := Lib.hid hr
 have HL := Lib.hid h3
 generalize hR : topV 0 l = r
 have HR := Lib.hid hR
 clear hr h3 hmc hm0 hR
 go_enter Tryd.func53, Tryd.ntmps53
 go_wp2_with fail
 go_loopg [3, 5, 8] 3 (fun gg s3 _ s8 wr => ∃ (k : Nat) (n : Int), k ≤ 3 ∧ 3 - k ≤ gg ∧ s3 = .int .i64 n ∧ s8 = .int .i64 k ∧ Aside (Ext w wr) ∧ Aside (topV n (l.drop k) = r))
 case atStart => exact ⟨0, 0, by omega, by omega, rfl, rfl, Ext.refl _, HR.out⟩
 case round =>
  obtain ⟨k, n, hk, hg, rfl, rfl, HE, HA⟩ := hrel
  by_cases hlt : k < 3
  ·have hkl : k < l.length := by rw [HL.out]; exact hlt
   have hlt' : (k : Int) < 3 := by omega
   obtain ⟨b, o, rfl, hb, c0, c1, c2⟩ := (HRd.out.ext HE.out).vw_at rfl hkl
   have hA := HA.out
   rw [List.drop_eq_getElem_cons hkl] at hA
   unfold topV at hA
   generalize l[k] = x at *
   obtain ⟨x0, x1, x2⟩ := x
   simp only at c0 c1 c2 hA
   have HE2 := Lib.hid HE.out
   have HA2 := Lib.hid hA
   clear HE HA hkl hA
   go_wp2_with fail
   all_goals
    go_roundg (3 - (k + 1))
    case measure => omega
    case rel =>
     refine ⟨k + 1, _, by omega, by omega, rfl, by go_num, (show Ext w _ by exact extA), ?_⟩
     have hA := HA2.out
     first
      | exact hA
      | (rw [show max n x0 = x0 by omega] at hA; exact hA)
      | (rw [show max n x0 = n by omega] at hA; exact hA)
  ·have hk3 : k = 3 := by omega
   subst hk3
   have HQ := Lib.hid (show n = r by
    have := HA.out
    rw [List.drop_of_length_le (by rw [HL.out]; exact Nat.le_refl _)] at this
    exact this)
   have HE3 := Lib.hid HE.out
   clear HA HE
   go_wp2_with fail
   go_ret
   exact ⟨ret_int (by rw [HQ.out]), HE3.out⟩
end Go.Proofs.YteojjbhadgkfgaaDoor

/- lead.Who and Now. -/
namespace Go.Proofs.YteojjbhadgkfgaaDoor
set_option linter.unusedSimpArgs false
set_option linter.unusedVariables false
set_option maxRecDepth 100000
open Go Go.RowKit Lb

theorem ixBy_find {α : Type} (p : α → Bool) (l : List α) {x : α} (h : l.find? p = some x) : ∃ i : Nat, ixBy p l = i ∧ ∃ hi : i < l.length, l[i] = x := by
 rw [List.find?_eq_some_iff_getElem] at h
 obtain ⟨hp, i, hi, hx, hj⟩ := h
 refine ⟨i, ?_, hi, hx⟩
 unfold ixBy
 rw [findIdx_some hi (fun j hj' => by simpa using hj j hj') (by rw [hx]; exact hp)]
theorem top_find {l : List Vw} (hr : RightV l) : ∃ v, l.find? (atTop (topV 0 l)) = some v := by
 cases hf : l.find? (atTop (topV 0 l)) with
 | some v => exact ⟨v, rfl⟩
 | none =>
  exfalso
  rw [List.find?_eq_none] at hf
  rcases topV_mem 0 l with h | ⟨v, hv, h⟩
  ·have hp : 0 < l.length := by rw [hr.1]; omega
   have hm := List.getElem_mem hp
   have h1 := le_topV 0 l _ hm
   have h2 := (ckView_ok _).1 (hr.2.1 _ hm)
   have h3 := hf _ hm
   simp only [atTop, beq_iff_eq] at h3
   omega
  ·have h3 := hf _ hv
   simp [atTop, h] at h3

set_option maxHeartbeats 4000000 in
theorem lead_Who (l : List Vw) (v : Value) (w : World) (hr : RdL 3 vwc w v l) (hd : ckViews l = 0) :
  Calls Tryd.prog 18 #[v] w fun e w' => e = .returned (.tuple #[.int .i64 (whoV l).1, .bool (whoV l).2]) ∧ Ext w w' := by
 have hR := (rightV_iff l).1 hd
 obtain ⟨x, hx⟩ := top_find hR
 obtain ⟨i, hi, hil, hlx⟩ := ixBy_find _ _ hx
 have hwt : whoTop l = x.leader := by unfold whoTop; rw [hx]
 have hxr := (ckView_ok x).1 (hR.2.1 x (by rw [← hlx]; exact List.getElem_mem hil))
 obtain ⟨n, hn⟩ : ∃ n : Nat, x.leader = n := ⟨x.leader.toNat, by omega⟩
 have hn3 : n < l.length := by rw [hR.1]; omega
 have hup : isUp l x.leader = l[n].up := by
  unfold isUp
  rw [hn, Int.toNat_natCast, List.getElem?_eq_getElem hn3]
 have HG := Lib.hid (fun (w' : World) (h : Ext w w') => lead_greatest l v w' (hr.ext h) hR.1)
 have HI := Lib.hid (fun (w' : World) (g : Nat) (h : Ext w w') (hg : Row w' g #[.int .i64 (topV 0 l)]) => IndexFunc_view (atTop (topV 0 l)) 55 #[.pointer (some ⟨g, 0, none⟩)] (fun args w => by simp [go_sem]) l v w' (hr.ext h) (fun W x h => lead_Who1 x (topV 0 l) g W (hg.ext h)))
 have HM := Lib.hid (fun (w' : World) (g : Nat) (h : Ext w w') (hg : Row w' g #[.int .i64 (topV 0 l)]) => lead_many (upTop (topV 0 l)) 57 #[.pointer (some ⟨g, 0, none⟩)] (fun args w => by simp [go_sem]) l v w' (hr.ext h) hR.1 (fun W x h => lead_Who2 x (topV 0 l) g W (hg.ext h)))
 have hcnt := countV_nonneg (upTop (topV 0 l)) l
 have hcl : countV (upTop (topV 0 l)) l ≤ 3 := by
  have : ∀ m : List Vw, countV (upTop (topV 0 l)) m ≤ m.length := by
   intro m
   induction m with
   | nil => simp [countV]
   | cons a m ih => rw [countV_cons, List.length_cons]; push_cast; split <;> omega
  have := this l
  rw [hR.1] at this
  exact this
 unfold whoV leads
 rw [hwt, hup]
 rw [hi] at HI
 have hli : l[i].leader = n := by rw [hlx]; exact hn
 obtain ⟨A, c, rfl, -, -⟩ := hr.form
 obtain ⟨b, o, rfl, hb, c0, c1, c2⟩ := hr.vw_at rfl hil
 obtain ⟨b', o', hA, -, d0, d1, d2⟩ := hr.vw_at rfl hn3
 injection hA with hA
 injection hA with h1 h2
 subst h1 h2
 rw [hli] at c1
 rw [hn]
 have hi3 : i < 3 := by rw [← hR.1]; exact hil
 have hn3' : n < 3 := by rw [← hR.1]; exact hn3
 rw [hR.1] at HG HI HM ⊢
 generalize l[n].up = u at *
 generalize topV 0 l = top at *
 generalize countV (upTop top) l = m at *
 generalize hres : (if (decide (0 < top) && decide (3 < 2 * m) && u) = true then ((n : Int), true) else (0, false)) = res
 have HRES := Lib.hid hres
 have hw2 : IntKind.i64.wrap (2 * m) = 2 * m := IntWalk.i64_in _ (by omega)
 have hii : (i : Int) < 3 := by omega
 have hni : (n : Int) < 3 := by omega
 clear hres hr hd hR hx hlx hwt hxr hn hup hli hi hil hn3 c0 c2 d0 d1 hcnt
 go_enter Tryd.func18, Tryd.ntmps18
 go_wp2_with fail
 (refine (HG.out _ (by exact extA)).mono ?_; rintro e w1 ⟨rfl, h1⟩; have H1 := Lib.hid h1; have hz1 := h1.size; clear h1; (try simp only [World.size_alloc, size_set, World.heap_drewN, size_drew] at hz1))
 go_wp2_with fail
 have hc1 : (w1.alloc (.cells #[.int .i64 top] 3)).cell? ⟨b, o + i * 3 + 1, none⟩ = some (.int .i64 n) := by
  have hE : Ext w (w1.alloc (.cells #[.int .i64 top] 3)) := by exact extA
  exact (hE.cells b _ hb).trans c1
 refine (HI.out _ _ (by exact extA) (Row.newAt rfl)).mono ?_
 rintro e w2 ⟨rfl, h2⟩
 have H2 := Lib.hid h2
 have hz2 := h2.size
 clear h2
 (apply Row.use (w := w2) (g := w1.heap.size); (focus (exact rowA)); intro q2_0 f2_0 l2_0 R2_0; (try simp only [lSet] at q2_0 R2_0))
 have hE2 : Ext w w2 := by exact extA
 have e1 := (hE2.cells b (o + i * 3 + 1) hb).trans c1
 go_wp2_with fail
 refine (HM.out _ _ hE2 R2_0.out).mono ?_
 rintro e w3 ⟨rfl, h3⟩
 have H3 := Lib.hid h3
 clear h3
 (apply Row.use (w := w3) (g := w1.heap.size); (focus (exact rowA)); intro q3_0 f3_0 l3_0 R3_0; (try simp only [lSet] at q3_0 R3_0))
 have hE3 : Ext w w3 := by exact extA
 have e2 := (hE3.cells b (o + n * 3 + 2) hb).trans d2
 have HE3 := Lib.hid hE3
 clear hE2 hE3
 by_cases ht : 0 < top
 ·have htd : decide (0 < top) = true := by simpa using ht
  by_cases hm : 3 < 2 * m
  ·have hmd : decide (3 < 2 * m) = true := by simpa using hm
   cases u
   ·have HQ := Lib.hid (show res = (0, false) by rw [← HRES.out]; simp)
    clear HRES
    go_wp2_with fail
    go_ret2
    exact ⟨by rw [HQ.out]; rfl, HE3.out⟩
   ·have HQ := Lib.hid (show res = ((n : Int), true) by rw [← HRES.out]; simp [ht, hm])
    clear HRES
    go_wp2_with fail
    go_ret2
    exact ⟨by rw [HQ.out]; rfl, HE3.out⟩
  ·have hmd : decide (3 < 2 * m) = false := by simpa using hm
   have HQ := Lib.hid (show res = (0, false) by rw [← HRES.out]; simp [hm])
   clear HRES
   go_wp2_with fail
   go_ret2
   exact ⟨by rw [HQ.out]; rfl, HE3.out⟩
 ·have htd : decide (0 < top) = false := by simpa using ht
  have HQ := Lib.hid (show res = (0, false) by rw [← HRES.out]; simp [ht])
  clear HRES
  go_wp2_with fail
  go_ret2
  exact ⟨by rw [HQ.out]; rfl, HE3.out⟩

set_option maxHeartbeats 4000000 in
theorem lead_Now (l : List Vw) (v : Value) (w : World) (hr : RdL 3 vwc w v l) :
  Calls Tryd.prog 41 #[v] w fun e w' => e = .returned (.tuple #[.int .i64 (nowAll l).1, .bool (nowAll l).2.1, .int .i64 (nowAll l).2.2]) ∧ Ext w w' := by
 have HC := Lib.hid (fun (w' : World) (h : Ext w w') => lead_Check l v w' (hr.ext h))
 obtain ⟨A, c, rfl, -, -⟩ := hr.form
 by_cases hd : ckViews l = 0
 ·have HW := Lib.hid (fun (w' : World) (h : Ext w w') => lead_Who l _ w' (hr.ext h) hd)
  have hn : nowAll l = ((whoV l).1, (whoV l).2, 0) := by unfold nowAll; rw [if_neg (by rw [hd]; decide)]
  rw [hn]
  rw [hd] at HC
  clear hn hd hr
  generalize whoV l = X at *
  obtain ⟨x1, x2⟩ := X
  simp only at HW ⊢
  go_enter Tryd.func41, Tryd.ntmps41
  go_wp2_with fail
  (refine (HC.out _ (by exact extA)).mono ?_; rintro e w1 ⟨rfl, h1⟩; have H1 := Lib.hid h1; have hz1 := h1.size; clear h1; (try simp only [World.size_alloc, size_set, World.heap_drewN, size_drew] at hz1))
  go_wp2_with fail
  (refine (HW.out _ (by exact extA)).mono ?_; rintro e w2 ⟨rfl, h2⟩; have H2 := Lib.hid h2; have hz2 := h2.size; clear h2; (try simp only [World.size_alloc, size_set, World.heap_drewN, size_drew] at hz2))
  go_wp2_with fail
  refine bodyPost_ret (v := .tuple #[.int .i64 x1, .bool x2, .int .i64 0]) (by simp [results, Tryd.results41, go_sem, *]) rfl ⟨rfl, ?_⟩
  exact extA
 ·have hn : nowAll l = (0, false, ckViews l) := by unfold nowAll; rw [if_pos hd]
  rw [hn]
  have hb : (ckViews l != 0) = true := by simpa using hd
  generalize ckViews l = r at *
  clear hn hd hr
  go_enter Tryd.func41, Tryd.ntmps41
  go_wp2_with fail
  (refine (HC.out _ (by exact extA)).mono ?_; rintro e w1 ⟨rfl, h1⟩; have H1 := Lib.hid h1; have hz1 := h1.size; clear h1; (try simp only [World.size_alloc, size_set, World.heap_drewN, size_drew] at hz1))
  go_wp2_with fail
  refine bodyPost_ret (v := .tuple #[.int .i64 0, .bool false, .int .i64 r]) (by simp [results, Tryd.results41, go_sem, *]) rfl ⟨rfl, ?_⟩
  exact extA
end Go.Proofs.YteojjbhadgkfgaaDoor

/- slices.Clone over records. -/
namespace Go.Proofs.YteojjbhadgkfgaaDoor
set_option linter.unusedSimpArgs false
set_option linter.unusedVariables false
set_option maxRecDepth 100000
open Go Go.RowKit Lb

theorem info_vw : (Tryd.prog.info? 92).map (fun i => (i.zero, i.size, i.bytes)) = some (some (.agg #[.int .i64 0, .int .i64 0, .bool false]), 3, 24) := by kernel_rfl

set_option maxHeartbeats 2000000 in
set_option maxRecDepth 100000 in
/-- slices.Clone: the same records in a row of the call's own. -/
theorem Clone_vw (l : List Vw) (v : Value) (w : World) (hr : RdL 3 vwc w v l) (hb : l.length * 24 ≤ 140737488355328) :
  Calls Tryd.prog 84 #[v] w fun e w' => ∃ v', e = .returned v' ∧ Ext w w' ∧ OwnL 92 3 vwc w.heap.size w' v' l := by
 obtain ⟨i0, hi, hz0, hz1, hz2⟩ := info_parts info_vw
 obtain ⟨A, c, rfl, h1, h2, h3⟩ := hr
 have hlen := encs_length (enc := vwc) (k := 3) (fun _ => rfl) l
 have hm : l.length ≤ maxLen := Nat.le_trans h1 h2
 cases A with
 | none =>
  have hl : l = [] := by
   cases l with
   | nil => rfl
   | cons x l =>
    obtain ⟨b, o, h, _⟩ := h3 (by simp)
    cases h
  subst hl
  clear h3 h1 h2 hlen
  have hq : ∀ (w : World) (a : Option Addr) (n c n' c' : Nat), (binOp .eql 30 (.slice a n c) (.slice none n' c')).run Tryd.prog w = .ok (.bool a.isNone) w := fun w a n c n' c' => Lib.run_eql_slice_nil w _ _ a n c n' c' Tryd.underlying30
  go_enter Tryd.func84, Tryd.ntmps84
  go_wp2_with fail
  go_ret
  exact ⟨_, rfl, Ext.refl _, OwnL.nil⟩
 | some ad =>
  have hnews : ∀ j u, (encs vwc l)[j]? = some u → w.cell? (ad.add j) = some u := by
   intro j u hu
   have hj : j < (encs vwc l).length := (List.getElem?_eq_some_iff.1 hu).1
   have hj2 : j / 3 < l.length := by omega
   obtain ⟨b, o, hA, hb, hc⟩ := h3 (by omega)
   injection hA with hA
   subst hA
   have hg := encs_get (enc := vwc) (k := 3) (fun _ => rfl) l (j / 3) (j % 3) hj2 (by omega)
   rw [show j / 3 * 3 + j % 3 = j from by omega, hu] at hg
   have := hc (j / 3) hj2 (j % 3) u (by rw [show l[j / 3]! = l[j / 3] from getElem!_pos l (j / 3) hj2]; exact hg.symm)
   rw [show o + j / 3 * 3 + j % 3 = o + j from by omega] at this
   rwa [show (⟨b, o, none⟩ : Addr).add j = ⟨b, o + j, none⟩ from by unfold Addr.add; split <;> simp_all]
  have hone : ∀ u ∈ encs vwc l, u.oneCell' = true := by
   intro u hu
   obtain ⟨x, -, hx⟩ := List.mem_flatMap.1 hu
   simp [vwc] at hx
   (rcases hx with rfl | rfl | rfl) <;> rfl
  have hq : ∀ (w : World) (a : Option Addr) (n c n' c' : Nat), (binOp .eql 30 (.slice a n c) (.slice none n' c')).run Tryd.prog w = .ok (.bool a.isNone) w := fun w a n c n' c' => Lib.run_eql_slice_nil w _ _ a n c n' c' Tryd.underlying30
  have HN := Lib.hid hnews
  have HL := Lib.hid hlen
  clear h3 hnews hlen
  go_enter Tryd.func84, Tryd.ntmps84
  go_wp2_with (at_builtin; refine wpList_append_own _ rfl _ _ 30 rfl w.heap.size 92 i0 (.agg #[.int .i64 0, .int .i64 0, .bool false]) 3 24 Tryd.underlying30 hi hz0 hz1 hz2 rfl (by decide) _ _ _ rfl (World.ownsRow_made w #[] 0 (Nat.le_refl _) (Nat.zero_le _) (by simp)) ad l.length c (encs vwc l) rfl ?qc1 ?qc2 ?qc3 ?qc4 ?qc5 ?qc6 ?_)
  case qc1 => exact HL.out
  case qc2 =>
   intro j u hj
   exact Lib.cell?_alloc_some _ (HN.out j u hj)
  case qc3 => exact hone
  case qc4 => rw [Nat.zero_add]; exact hm
  case qc5 => rw [Nat.zero_add]; exact hb
  case qc6 => simp
  intro v' w1 hown hgrow hnil
  go_wp2
  go_ret
  refine ⟨v', rfl, ?_, ?_⟩
  ·exact ((Ext.refl w).alloc _).grown hgrow (by intro k hk; simp [Value.ownBlock] at hk; omega)
  ·unfold OwnL; simpa using hown

end Go.Proofs.YteojjbhadgkfgaaDoor

/- station.New: three gates, three views. -/
namespace Go.Proofs.YteojjbhadgkfgaaDoor
set_option linter.unusedSimpArgs false
set_option linter.unusedVariables false
set_option maxRecDepth 100000
open Go Go.RowKit Lb

/-- a gate as it lies in memory: its two slices are values -/
structure Gv where
 id : Int
 zone : Int
 seq : Int
 alone : Value
 ver : Int
 ids : Value
 left : Int
 untl : Int
instance : Inhabited Gv := ⟨⟨0, 0, 0, .slice none 0 0, 0, .slice none 0 0, 0, 0⟩⟩
def gvc (g : Gv) : Array Value := #[.int .i64 g.id, .int .i64 g.zone, .int .i64 g.seq, g.alone, .int .i64 g.ver, g.ids, .int .i64 g.left, .int .i64 g.untl]
theorem gvc_size (g : Gv) : (gvc g).size = 8 := rfl
theorem info_gt : (Tryd.prog.info? 47).map (fun i => (i.zero, i.size, i.bytes)) = some (some (.agg #[.int .i64 0, .int .i64 0, .int .i64 0, .slice none 0 0, .int .i64 0, .slice none 0 0, .int .i64 0, .int .i64 0]), 8, 96) := by kernel_rfl
theorem info_vw0 : (Tryd.prog.info? 92).map (fun i => (i.zero, i.size, i.bytes)) = some (some (.agg #[.int .i64 0, .int .i64 0, .bool false]), 3, 24) := by kernel_rfl
def newGate (i z : Int) : Gv := ⟨i, z, 0, .slice none 0 0, 0, .slice none 0 0, 9, 100⟩
def newGates : List Gv := [newGate 0 1, newGate 1 2, newGate 2 4]
def newViews : List Vw := [⟨0, 0, true⟩, ⟨0, 0, true⟩, ⟨0, 0, true⟩]
theorem newgate_one (i z : Int) : ∀ u ∈ encs gvc [newGate i z], u.oneCell' = true := by
 intro u hu
 simp [encs, gvc, newGate] at hu
 (rcases hu with rfl | rfl | rfl | rfl | rfl | rfl | rfl | rfl) <;> rfl
theorem view_one : ∀ u ∈ encs vwc [⟨0, 0, true⟩], u.oneCell' = true := by
 intro u hu
 simp [encs, vwc] at hu
 (rcases hu with rfl | rfl | rfl) <;> rfl

set_option maxRecDepth 100000 in
set_option maxHeartbeats 8000000 in
theorem station_New (w : World) :
  Calls Tryd.prog 40 #[] w fun e w' => ∃ gs vs, e = .returned (.agg #[.slice none 0 0, .slice none 0 0, .slice none 0 0, .int .i64 0, .slice none 0 0, gs, vs]) ∧ Ext w w' ∧ OwnL 47 8 gvc w.heap.size w' gs newGates ∧ OwnL 92 3 vwc w.heap.size w' vs newViews := by
 obtain ⟨i0, hi, hz0, hz1, hz2⟩ := info_parts info_gt
 obtain ⟨j0, ji, jz0, jz1, jz2⟩ := info_parts info_vw0
 go_enter Tryd.func40, Tryd.ntmps40
 go_wp2_with fail
 go_loopg [2, 3] 3 (fun gg _ s3 wr => ∃ (k : Nat) (A : Option Addr) (c : Nat), k ≤ 3 ∧ 3 - k ≤ gg ∧ s3 = .int .i64 k ∧ Aside (Ext w wr ∧ Row wr (w.heap.size + 1) #[.slice none 0 0, .slice none 0 0, .slice none 0 0, .int .i64 0, .slice none 0 0, .slice A k c, .slice none 0 0] ∧ (∃ cs, Row wr w.heap.size cs ∧ cs.size = 7)) ∧ Aside (OwnL 47 8 gvc (w.heap.size + 1 + 1) wr (.slice A k c) (newGates.take k)))
 case atStart => exact ⟨0, none, 0, by omega, by omega, rfl, ⟨((Ext.refl _).alloc _).alloc _, Row.newAt (by simp), ⟨_, (Row.newAt rfl).alloc, rfl⟩⟩, OwnL.nil⟩
 case round =>
  obtain ⟨k, A, c, hk, hg, rfl, HA, HB⟩ := hrel
  have h4 : k = 0 ∨ k = 1 ∨ k = 2 ∨ k = 3 := by omega
  have hq := HA.out.2.1.2.1
  have hf := HA.out.2.1.2.2
  have hlt := HA.out.2.1.1
  have HA2 := Lib.hid HA.out
  have HB2 := Lib.hid HB.out
  clear HA HB
  rcases h4 with rfl | rfl | rfl | rfl
  ·go_wp2_with fail
   go_region_law (refine step_append_rd (enc := gvc) (k := 8) _ rfl (.tmp 7) (.tmp 13) 29 rfl (w.heap.size + 1 + 1) 47 i0 (.agg #[.int .i64 0, .int .i64 0, .int .i64 0, .slice none 0 0, .int .i64 0, .slice none 0 0, .int .i64 0, .int .i64 0]) 96 Tryd.underlying29 hi hz0 hz1 hz2 rfl (by decide) gvc_size (.slice A 0 c) (newGates.take 0) (by simp [Act.eval, Act.put]) (HB2.out.drew.alloc _) (.slice (some ⟨wr.heap.size, 0, none⟩) 1 1) [newGate 0 1] (by simp [Act.eval, Act.put]) (RdL.lit (enc := gvc) (newGate 0 1) rfl rfl) (newgate_one 0 1) (by unfold maxLen; simp [newGates]) (by simp [newGates]) (by simp; omega) ?_; intro v' w' ho' hg' hn'; obtain ⟨A', c', rfl⟩ := ho'.form; have hr' := Row.grown (g := w.heap.size + 1) (HA2.out.2.1.drew.alloc) hg' (fun h => by have := (HB2.out.lt _ h.symm).1; omega); have HE' := Lib.hid (Ext.grown (HA2.out.1.drew.alloc _) hg' (fun j hj => by have := (HB2.out.lt j hj).1; omega)); have HC' := Lib.hid (HA2.out.2.2.imp (fun cs h => And.intro (Row.grown (g := w.heap.size) (h.1.drew.alloc) hg' (fun h => by have := (HB2.out.lt _ h.symm).1; omega)) h.2)); have HR' := Lib.hid hr'; have HO' := Lib.hid ho'; have hq' := hr'.2.1; have hf' := hr'.2.2; have hlt' := hr'.1; clear hr' hg' hn' ho')
   all_goals
    go_wp2_with fail
    go_roundg (3 - 1)
    case measure => omega
    case rel =>
     obtain ⟨cs, hcs, hcz⟩ := HC'.out
     refine ⟨1, A', c', by omega, by omega, by go_num, ⟨HE'.out.setCell (by simp) _, ?_, ⟨cs, Row.far (by simp) hcs, hcz⟩⟩, OwnL.setC (by simp) HO'.out⟩
     have := HR'.out.set_ (i := 5) (u := .slice A' 1 c')
     simpa [newGates] using this
  ·go_wp2_with fail
   go_region_law (refine step_append_rd (enc := gvc) (k := 8) _ rfl (.tmp 7) (.tmp 13) 29 rfl (w.heap.size + 1 + 1) 47 i0 (.agg #[.int .i64 0, .int .i64 0, .int .i64 0, .slice none 0 0, .int .i64 0, .slice none 0 0, .int .i64 0, .int .i64 0]) 96 Tryd.underlying29 hi hz0 hz1 hz2 rfl (by decide) gvc_size (.slice A 1 c) (newGates.take 1) (by simp [Act.eval, Act.put]) (HB2.out.drew.alloc _) (.slice (some ⟨wr.heap.size, 0, none⟩) 1 1) [newGate 1 2] (by simp [Act.eval, Act.put]) (RdL.lit (enc := gvc) (newGate 1 2) rfl rfl) (newgate_one 1 2) (by unfold maxLen; simp [newGates]) (by simp [newGates]) (by simp; omega) ?_; intro v' w' ho' hg' hn'; obtain ⟨A', c', rfl⟩ := ho'.form; have hr' := Row.grown (g := w.heap.size + 1) (HA2.out.2.1.drew.alloc) hg' (fun h => by have := (HB2.out.lt _ h.symm).1; omega); have HE' := Lib.hid (Ext.grown (HA2.out.1.drew.alloc _) hg' (fun j hj => by have := (HB2.out.lt j hj).1; omega)); have HC' := Lib.hid (HA2.out.2.2.imp (fun cs h => And.intro (Row.grown (g := w.heap.size) (h.1.drew.alloc) hg' (fun h => by have := (HB2.out.lt _ h.symm).1; omega)) h.2)); have HR' := Lib.hid hr'; have HO' := Lib.hid ho'; have hq' := hr'.2.1; have hf' := hr'.2.2; have hlt' := hr'.1; clear hr' hg' hn' ho')
   all_goals
    go_wp2_with fail
    go_roundg (3 - 2)
    case measure => omega
    case rel =>
     obtain ⟨cs, hcs, hcz⟩ := HC'.out
     refine ⟨2, A', c', by omega, by omega, by go_num, ⟨HE'.out.setCell (by simp) _, ?_, ⟨cs, Row.far (by simp) hcs, hcz⟩⟩, OwnL.setC (by simp) HO'.out⟩
     have := HR'.out.set_ (i := 5) (u := .slice A' 2 c')
     simpa [newGates] using this
  ·go_wp2_with fail
   go_region_law (refine step_append_rd (enc := gvc) (k := 8) _ rfl (.tmp 7) (.tmp 13) 29 rfl (w.heap.size + 1 + 1) 47 i0 (.agg #[.int .i64 0, .int .i64 0, .int .i64 0, .slice none 0 0, .int .i64 0, .slice none 0 0, .int .i64 0, .int .i64 0]) 96 Tryd.underlying29 hi hz0 hz1 hz2 rfl (by decide) gvc_size (.slice A 2 c) (newGates.take 2) (by simp [Act.eval, Act.put]) (HB2.out.drew.alloc _) (.slice (some ⟨wr.heap.size, 0, none⟩) 1 1) [newGate 2 4] (by simp [Act.eval, Act.put]) (RdL.lit (enc := gvc) (newGate 2 4) rfl rfl) (newgate_one 2 4) (by unfold maxLen; simp [newGates]) (by simp [newGates]) (by simp; omega) ?_; intro v' w' ho' hg' hn'; obtain ⟨A', c', rfl⟩ := ho'.form; have hr' := Row.grown (g := w.heap.size + 1) (HA2.out.2.1.drew.alloc) hg' (fun h => by have := (HB2.out.lt _ h.symm).1; omega); have HE' := Lib.hid (Ext.grown (HA2.out.1.drew.alloc _) hg' (fun j hj => by have := (HB2.out.lt j hj).1; omega)); have HC' := Lib.hid (HA2.out.2.2.imp (fun cs h => And.intro (Row.grown (g := w.heap.size) (h.1.drew.alloc) hg' (fun h => by have := (HB2.out.lt _ h.symm).1; omega)) h.2)); have HR' := Lib.hid hr'; have HO' := Lib.hid ho'; have hq' := hr'.2.1; have hf' := hr'.2.2; have hlt' := hr'.1; clear hr' hg' hn' ho')
   all_goals
    go_wp2_with fail
    go_roundg (3 - 3)
    case measure => omega
    case rel =>
     obtain ⟨cs, hcs, hcz⟩ := HC'.out
     refine ⟨3, A', c', by omega, by omega, by go_num, ⟨HE'.out.setCell (by simp) _, ?_, ⟨cs, Row.far (by simp) hcs, hcz⟩⟩, OwnL.setC (by simp) HO'.out⟩
     have := HR'.out.set_ (i := 5) (u := .slice A' 3 c')
     simpa [newGates] using this
  ·obtain ⟨cs0, hc0, hz0'⟩ := HA2.out.2.2
   have HC0 := Lib.hid hc0
   go_wp2_with fail
   go_loopg [17] 3 (fun gg s17 wq => ∃ (k : Nat) (A2 : Option Addr) (c2 : Nat), k ≤ 3 ∧ 3 - k ≤ gg ∧ s17 = .int .i64 k ∧ Aside (Ext w wq ∧ Row wq (w.heap.size + 1) #[.slice none 0 0, .slice none 0 0, .slice none 0 0, .int .i64 0, .slice none 0 0, .slice A 3 c, .slice A2 k c2] ∧ Row wq w.heap.size cs0) ∧ Aside (OwnL 47 8 gvc (w.heap.size + 1 + 1) wq (.slice A 3 c) newGates ∧ OwnL 92 3 vwc (w.heap.size + 1 + 1) wq (.slice A2 k c2) (newViews.take k) ∧ (∀ q, (Value.slice A2 k c2).ownBlock = some q → (Value.slice A 3 c).ownBlock ≠ some q)))
   case atStart => exact ⟨0, none, 0, by omega, by omega, rfl, ⟨HA2.out.1, HA2.out.2.1, HC0.out⟩, HB2.out, OwnL.nil, fun q h => by cases h⟩
   case round =>
    obtain ⟨k, A2, c2, hk, hg, rfl, HA, HB⟩ := hrel
    have hq := HA.out.2.1.2.1
    have hf := HA.out.2.1.2.2
    have hlt := HA.out.2.1.1
    have hq0 := HA.out.2.2.2.1
    have hf0 := HA.out.2.2.2.2
    have hlt0 := HA.out.2.2.1
    have HA3 := Lib.hid HA.out
    have HB3 := Lib.hid HB.out
    clear HA HB HA2 HB2
    by_cases hlt3 : k < 3
    ·have hlt' : (k : Int) < 3 := by omega
     have hw2 := HA3.out.1.size
     go_wp2_with (at_builtin; refine wpList_append_rd (enc := vwc) (k := 3) _ rfl _ _ 30 rfl (w.heap.size + 1 + 1) 92 j0 (.agg #[.int .i64 0, .int .i64 0, .bool false]) 24 Tryd.underlying30 ji jz0 jz1 jz2 rfl (by decide) vwc_size _ (newViews.take k) rfl (HB3.out.2.1.alloc _) _ [⟨0, 0, true⟩] rfl (RdL.lit (enc := vwc) ⟨0, 0, true⟩ ?qa0 ?qa1) view_one ?qa3 ?qa4 ?qa5 ?_)
     case qa0 => rfl
     case qa1 => rfl
     case qa3 => unfold maxLen; simp; omega
     case qa4 => simp; omega
     case qa5 => simp only [World.size_alloc]; omega
     intro v' w' ho' hg' hn'
     have ht : newViews.take k ++ [⟨0, 0, true⟩] = newViews.take (k + 1) := by
      have h3 : k = 0 ∨ k = 1 ∨ k = 2 := by omega
      rcases h3 with rfl | rfl | rfl <;> rfl
     have hl : (newViews.take (k + 1)).length = k + 1 := by rw [List.length_take]; simp [newViews]; omega
     rw [ht] at ho'
     obtain ⟨A', c', rfl⟩ := ho'.form
     rw [hl] at ho' hn' ⊢
     have hfar : ∀ b, b < w.heap.size + 1 + 1 → some b ≠ (Value.slice A2 k c2).ownBlock := fun b hb h => by
      have := (HB3.out.2.1.lt _ h.symm).1
      omega
     have hE' : Ext w w' := Ext.grown (HA3.out.1.alloc _) hg' (fun j hj => by have := (HB3.out.2.1.lt j hj).1; omega)
     have hr' := Row.grown (g := w.heap.size + 1) (HA3.out.2.1.alloc) hg' (hfar _ (by omega))
     have hr0 := Row.grown (g := w.heap.size) (HA3.out.2.2.alloc) hg' (hfar _ (by omega))
     have hgk : OwnL 47 8 gvc (w.heap.size + 1 + 1) w' (.slice A 3 c) newGates := (HB3.out.1.alloc _).kept hg' (.inr (fun h => by
      cases hA2 : (Value.slice A2 k c2).ownBlock with
      | none =>
       rw [hA2] at h
       have hz := HB3.out.1.2
       rcases hz with ⟨hz, hz0⟩ | ⟨gg, cap, cur, hz, -⟩
       ·simp [newGates] at hz0
       ·rw [hz] at h; cases h
      | some q => exact HB3.out.2.2 q hA2 (h.trans hA2)))
     have hne : ∀ q, (Value.slice A' (k + 1) c').ownBlock = some q → (Value.slice A 3 c).ownBlock ≠ some q := by
      intro q hq2 hq3
      rcases hn' with h | h
      ·exact HB3.out.2.2 q (by rw [← h]; exact hq2) hq3
      ·rw [h] at hq2
       injection hq2 with hq2
       have := (HB3.out.1.lt _ hq3).2
       (try simp only [World.size_alloc] at hq2)
       (try simp only [World.size_alloc] at this)
       omega
     have HE' := Lib.hid hE'
     have HR' := Lib.hid hr'
     have HR0 := Lib.hid hr0
     have HO' := Lib.hid (And.intro hgk (And.intro ho' hne))
     have hq' := hr'.2.1
     have hf' := hr'.2.2
     have hlt2 := hr'.1
     have hlt0' := hr0.1
     clear hE' hr' hr0 hgk hne hg' hn' ho' ht hl hfar
     go_wp2_with fail
     go_roundg (3 - (k + 1))
     case measure => omega
     case rel =>
      refine ⟨k + 1, A', c', by omega, by omega, by go_num, ⟨HE'.out.setCell (by simp) _, ?_, Row.far (by simp) HR0.out⟩, OwnL.setC (by simp) HO'.out.1, OwnL.setC (by simp) HO'.out.2.1, HO'.out.2.2⟩
      have := HR'.out.set_ (i := 6) (u := .slice A' (k + 1) c')
      simpa using this
    ·have hk3 : k = 3 := by omega
     subst hk3
     match cs0, hz0' with
     | ⟨[z0, z1, z2, z3, z4, z5, z6]⟩, _ =>
      go_wp2_with fail
      refine bodyPost_ret (v := .agg #[.slice none 0 0, .slice none 0 0, .slice none 0 0, .int .i64 0, .slice none 0 0, .slice A 3 c, .slice A2 3 c2]) (by simp [results, Tryd.results40, go_sem, *]) rfl ⟨_, _, rfl, ?_, ?_, ?_⟩
      ·repeat (refine Ext.setCell ?_ (Nat.le_refl _) _)
       exact HA3.out.1
      ·refine OwnL.lower (base := w.heap.size + 1 + 1) ?_ (by omega)
       repeat (refine OwnL.setC (by simp <;> omega) ?_)
       exact HB3.out.1
      ·refine OwnL.lower (base := w.heap.size + 1 + 1) ?_ (by omega)
       repeat (refine OwnL.setC (by simp <;> omega) ?_)
       exact HB3.out.2.1
end Go.Proofs.YteojjbhadgkfgaaDoor

/- lead.Raw, Win, Turn, Set. -/
namespace Go.Proofs.YteojjbhadgkfgaaDoor
set_option linter.unusedSimpArgs false
set_option linter.unusedVariables false
set_option maxRecDepth 100000
open Go Go.RowKit Lb

theorem part_step {α : Type} {m l : List α} {k : Nat} (h : m.length = l.length) (hk : k < l.length) : (m.take k ++ l.drop k).set k (m[k]'(by omega)) = m.take (k + 1) ++ l.drop (k + 1) := by
 have h1 : (m.take k).length = k := by rw [List.length_take]; omega
 rw [List.set_append_right _ _ (by omega), h1, Nat.sub_self, List.drop_eq_getElem_cons hk, List.set_cons_zero, List.take_succ_eq_append_getElem (by omega), List.append_assoc]
 rfl
theorem part_same {α : Type} {m l : List α} {k : Nat} (h : m.length = l.length) (hk : k < l.length) (he : m[k]'(by omega) = l[k]) : m.take k ++ l.drop k = m.take (k + 1) ++ l.drop (k + 1) := by
 rw [← part_step h hk, he, List.set_append_right _ _ (by rw [List.length_take]; omega), List.length_take, Nat.min_eq_left (by omega), Nat.sub_self, List.drop_eq_getElem_cons hk, List.set_cons_zero]
theorem part_get {α : Type} {m l : List α} {k : Nat} (h : m.length = l.length) (hk : k < l.length) : (m.take k ++ l.drop k)[k]? = some l[k] := by
 rw [List.getElem?_append_right (by rw [List.length_take]; omega), List.length_take, Nat.min_eq_left (by omega), Nat.sub_self, List.drop_eq_getElem_cons hk]
 rfl
theorem modify_set {α : Type} (l : List α) (n : Nat) (hn : n < l.length) (f : α → α) : l.modify n f = l.set n (f l[n]) := by
 apply List.ext_getElem?
 intro i
 rw [List.getElem?_modify, List.getElem?_set]
 by_cases h : n = i
 ·subst h
  simp [hn]
 ·cases l[i]? <;> simp [h]

set_option maxHeartbeats 8000000 in
theorem lead_Raw (l : List Vw) (v : Value) (who : Int) (w : World) (hr : RdL 3 vwc w v l) (hd : ckViews l = 0) :
  Calls Tryd.prog 66 #[v, .int .i64 who] w fun e w' => ∃ s', e = .returned (.tuple #[s', .bool (winV l who).2.1, .int .i64 (winV l who).2.2]) ∧ Ext w w' ∧ OwnL 92 3 vwc w.heap.size w' s' (winV l who).1 := by
 have hR := (rightV_iff l).1 hd
 have h3 := hR.1
 have HW := Lib.hid (fun w => lead_within who 0 1 w)
 have HCl := Lib.hid (fun (w' : World) (h : Ext w w') => Clone_vw l v w' (hr.ext h) (by omega))
 have HM := Lib.hid (fun (w' : World) (h : Ext w w') => lead_many isUpV 85 #[] (fun args w => by simp [go_sem]) l v w' (hr.ext h) h3 (fun W x h => by
  rw [show (#[.agg (vwc x)] ++ #[] : Array Value) = #[.agg (vwc x)] from rfl]
  exact lead_Raw1 x W))
 have HG := Lib.hid (fun (w' : World) (h : Ext w w') => lead_greatest l v w' (hr.ext h) h3)
 cases hwi : within who 0 1 with
 | false =>
  have hres : winV l who = ([], false, 3) := by unfold winV; rw [if_pos hwi]
  rw [hres]
  rw [hwi] at HW
  clear hres hwi hd hR h3
  go_enter Tryd.func66, Tryd.ntmps66
  go_wp2_with (go_at_call 68; refine (HW.out _).mono ?_; rintro e w' ⟨rfl, rfl⟩)
  refine bodyPost_ret (v := .tuple #[.slice none 0 0, .bool false, .int .i64 3]) (by simp [results, Tryd.results66, go_sem, *]) rfl ⟨_, rfl, Ext.refl _, OwnL.nil⟩
 | true =>
  rw [hwi] at HW
  have hwi2 : 0 ≤ who ∧ who ≤ 1 := by simpa [within] using hwi
  obtain ⟨n, rfl⟩ : ∃ n : Nat, who = n := ⟨who.toNat, by omega⟩
  have hn3 : n < l.length := by omega
  have hup : isUp l n = l[n].up := by
   unfold isUp
   rw [Int.toNat_natCast, List.getElem?_eq_getElem hn3]
  obtain ⟨A, c, rfl, -, -⟩ := hr.form
  obtain ⟨b, o, rfl, hb, -, -, d2⟩ := hr.vw_at rfl hn3
  have hcnt := countV_nonneg isUpV l
  have hcl : countV isUpV l ≤ 3 := by
   have : ∀ m : List Vw, countV isUpV m ≤ m.length := by
    intro m
    induction m with
    | nil => simp [countV]
    | cons a m ih => rw [countV_cons, List.length_cons]; push_cast; split <;> omega
   have := this l
   rw [h3] at this
   exact this
  have hw2 : IntKind.i64.wrap (2 * countV isUpV l) = 2 * countV isUpV l := IntWalk.i64_in _ (by omega)
  have hni : (n : Int) < 3 := by omega
  have hn3' : n < 3 := by omega
  rw [h3] at HCl HM HG ⊢
  have HU := Lib.hid hup
  have HL := Lib.hid h3
  by_cases hc : l[n].up = false ∨ 2 * countV isUpV l ≤ 3
  ·have hres : winV l n = (l, false, 0) := by unfold winV; rw [if_neg (by rw [hwi]; decide), if_pos (by rw [hup]; exact hc)]
   rw [hres]
   have hcb : l[n].up = false ∨ (l[n].up = true ∧ decide (2 * countV isUpV l ≤ 3) = true) := by
    cases hu : l[n].up with
    | false => exact .inl rfl
    | true => right; refine ⟨rfl, decide_eq_true ?_⟩; rcases hc with h | h; (rw [hu] at h; cases h); exact h
   generalize countV isUpV l = m at *
   generalize l[n].up = u at *
   clear hres hc hup hd hR h3 hwi hwi2
   rcases hcb with rfl | ⟨rfl, hmd⟩
   ·go_enter Tryd.func66, Tryd.ntmps66
    go_wp2_with (go_at_call 68; refine (HW.out _).mono ?_; rintro e w' ⟨rfl, rfl⟩)
    refine (HCl.out _ (by exact extA)).mono ?_
    rintro e w1 ⟨s1, rfl, h1, ho1⟩
    obtain ⟨A1, c1, rfl⟩ := ho1.form
    have H1 := Lib.hid h1
    have HO1 := Lib.hid ho1
    clear h1 ho1
    go_wp2_with fail
    refine (HM.out _ (by exact extA)).mono ?_
    rintro e w2 ⟨rfl, h2⟩
    have H2 := Lib.hid h2
    clear h2
    have hE2 : Ext w w2 := by exact extA
    have e2 := (hE2.cells b (o + n * 3 + 2) hb).trans d2
    go_wp2_with fail
    refine bodyPost_ret (v := .tuple #[.slice A1 l.length c1, .bool false, .int .i64 0]) (by simp [results, Tryd.results66, go_sem, *]) rfl ⟨_, rfl, ?_, ?_⟩
    ·exact extA
    ·repeat (first | (with_reducible assumption) | (with_reducible exact Hid.out ‹Hid (OwnL _ _ _ _ _ _ _)›) | (with_reducible apply OwnL.setC; focus (simp <;> omega)) | (with_reducible refine OwnL.put ?_ (by assumption) _) | (with_reducible apply OwnL.alloc) | (with_reducible apply OwnL.drew) | (with_reducible apply OwnL.drewN) | (with_reducible refine OwnL.ext ?_ (Hid.out ‹Hid (Ext _ _)›)))
   ·go_enter Tryd.func66, Tryd.ntmps66
    go_wp2_with (go_at_call 68; refine (HW.out _).mono ?_; rintro e w' ⟨rfl, rfl⟩)
    refine (HCl.out _ (by exact extA)).mono ?_
    rintro e w1 ⟨s1, rfl, h1, ho1⟩
    obtain ⟨A1, c1, rfl⟩ := ho1.form
    have H1 := Lib.hid h1
    have HO1 := Lib.hid ho1
    clear h1 ho1
    go_wp2_with fail
    refine (HM.out _ (by exact extA)).mono ?_
    rintro e w2 ⟨rfl, h2⟩
    have H2 := Lib.hid h2
    clear h2
    have hE2 : Ext w w2 := by exact extA
    have e2 := (hE2.cells b (o + n * 3 + 2) hb).trans d2
    go_wp2_with fail
    refine bodyPost_ret (v := .tuple #[.slice A1 l.length c1, .bool false, .int .i64 0]) (by simp [results, Tryd.results66, go_sem, *]) rfl ⟨_, rfl, ?_, ?_⟩
    ·exact extA
    ·repeat (first | (with_reducible assumption) | (with_reducible exact Hid.out ‹Hid (OwnL _ _ _ _ _ _ _)›) | (with_reducible apply OwnL.setC; focus (simp <;> omega)) | (with_reducible refine OwnL.put ?_ (by assumption) _) | (with_reducible apply OwnL.alloc) | (with_reducible apply OwnL.drew) | (with_reducible apply OwnL.drewN) | (with_reducible refine OwnL.ext ?_ (Hid.out ‹Hid (Ext _ _)›)))
  ·have hut : l[n].up = true := by
    cases hu : l[n].up with
    | true => rfl
    | false => exact absurd (.inl hu) hc
   have hmd : decide (2 * countV isUpV l ≤ 3) = false := decide_eq_false (fun h => hc (.inr h))
   rw [hut] at d2
   have hres : winV l n = if topV 0 l = 99 then ([], false, 2) else (raise (topV 0 l + 1) n l, true, 0) := by
    unfold winV; rw [if_neg (by rw [hwi]; decide), if_neg (by rw [hup]; exact hc)]
   rw [hres]
   have hT0 := topV_ge 0 l
   generalize countV isUpV l = m at *
   by_cases h99 : topV 0 l = 99
   ·rw [if_pos h99]
    rw [h99] at HG
    clear hres hc hup hut hd hR h3 hwi hwi2 hT0 h99
    go_enter Tryd.func66, Tryd.ntmps66
    go_wp2_with (go_at_call 68; refine (HW.out _).mono ?_; rintro e w' ⟨rfl, rfl⟩)
    refine (HCl.out _ (by exact extA)).mono ?_
    rintro e w1 ⟨s1, rfl, h1, ho1⟩
    obtain ⟨A1, c1, rfl⟩ := ho1.form
    have H1 := Lib.hid h1
    clear h1 ho1
    go_wp2_with fail
    refine (HM.out _ (by exact extA)).mono ?_
    rintro e w2 ⟨rfl, h2⟩
    have H2 := Lib.hid h2
    clear h2
    have hE2 : Ext w w2 := by exact extA
    have e2 := (hE2.cells b (o + n * 3 + 2) hb).trans d2
    go_wp2_with fail
    refine (HG.out _ hE2).mono ?_
    rintro e w3 ⟨rfl, h4⟩
    have H3 := Lib.hid h4
    clear h4
    go_wp2_with fail
    refine bodyPost_ret (v := .tuple #[.slice none 0 0, .bool false, .int .i64 2]) (by simp [results, Tryd.results66, go_sem, *]) rfl ⟨_, rfl, ?_, OwnL.nil⟩
    exact extA
   ·rw [if_neg h99]
    have hlt := top_lt hR h99
    have h99b : (topV 0 l == 99) = false := by simpa using h99
    have hrl : (raise (topV 0 l + 1) n l).length = l.length := raise_length _ _ _
    have hrg : ∀ k (hk : k < l.length) (hk2 : k < (raise (topV 0 l + 1) n l).length), (raise (topV 0 l + 1) n l)[k] = if l[k].up = true then ⟨topV 0 l + 1, n, true⟩ else l[k] := by
     intro k hk hk2
     have := raise_get (t := topV 0 l + 1) (who := n) (List.getElem?_eq_getElem hk)
     rw [List.getElem?_eq_getElem hk2] at this
     injection this
    generalize topV 0 l = top at *
    have hwt : IntKind.i64.wrap (top + 1) = top + 1 := IntWalk.i64_in _ (by omega)
    generalize hRS : raise (top + 1) n l = rs at *
    have HRL := Lib.hid hrl
    have HRG := Lib.hid hrg
    clear hres hc hup hut hd hR h3 hwi hwi2 hT0 h99 hrl hrg hRS
    go_enter Tryd.func66, Tryd.ntmps66
    go_wp2_with (go_at_call 68; refine (HW.out _).mono ?_; rintro e w' ⟨rfl, rfl⟩)
    refine (HCl.out _ (by exact extA)).mono ?_
    rintro e w1 ⟨s1, rfl, h1, ho1⟩
    obtain ⟨g, c1, rfl, hg1, hg2, hg3⟩ := ho1.slot (by rw [HL.out]; omega)
    have H1 := Lib.hid h1
    have HO1 := Lib.hid ho1
    clear h1 ho1
    go_wp2_with fail
    refine (HM.out _ (by exact extA)).mono ?_
    rintro e w2 ⟨rfl, h2⟩
    have H2 := Lib.hid h2
    clear h2
    have hE2 : Ext w w2 := by exact extA
    have e2 := (hE2.cells b (o + n * 3 + 2) hb).trans d2
    go_wp2_with fail
    refine (HG.out _ hE2).mono ?_
    rintro e w3 ⟨rfl, h4⟩
    have H3 := Lib.hid h4
    clear h4
    have hE3 : Ext w w3 := by exact extA
    have hO3 : OwnL 92 3 vwc w.heap.size w3 (.slice (some ⟨g, 0, none⟩) l.length c1) l := by repeat (first | (with_reducible assumption) | (with_reducible exact Hid.out ‹Hid (OwnL _ _ _ _ _ _ _)›) | (with_reducible apply OwnL.setC; focus (simp <;> omega)) | (with_reducible refine OwnL.put ?_ (by assumption) _) | (with_reducible apply OwnL.alloc) | (with_reducible apply OwnL.drew) | (with_reducible apply OwnL.drewN) | (with_reducible refine OwnL.ext ?_ (Hid.out ‹Hid (Ext _ _)›)))
    have HE3 := Lib.hid hE3
    have HO3 := Lib.hid hO3
    rw [HL.out] at HO3 ⊢
    clear hE2 hE3 hO3 HO1 H1 H2 H3 HM HG HCl HW e2
    go_wp2_with fail
    go_loopg [10, 11, 37] 3 (fun gg _ _ s37 wr => ∃ k : Nat, k ≤ 3 ∧ 3 - k ≤ gg ∧ s37 = .int .i64 k ∧ Aside (Ext w wr) ∧ Aside (OwnL 92 3 vwc w.heap.size wr (.slice (some ⟨g, 0, none⟩) 3 c1) (rs.take k ++ l.drop k)))
    case atStart => exact ⟨0, by omega, by omega, rfl, HE3.out, HO3.out⟩
    case round =>
     obtain ⟨k, hk, hgk, rfl, HE, HB⟩ := hrel
     by_cases hlt : k < 3
     ·have hkl : k < l.length := by rw [HL.out]; exact hlt
      have hlt' : (k : Int) < 3 := by omega
      have hpg := part_get HRL.out hkl
      have hps := part_step HRL.out hkl
      have hpe := part_same HRL.out hkl
      have hgk2 := HRG.out k hkl (by rw [HRL.out]; exact hkl)
      have hpl : k < (rs.take k ++ l.drop k).length := (List.getElem?_eq_some_iff.1 hpg).1
      have hpx : (rs.take k ++ l.drop k)[k] = l[k] := (List.getElem?_eq_some_iff.1 hpg).2
      have f0 := HB.out.field vwc_size k 0 hpl (by omega) (.int .i64 l[k].epoch) (by rw [hpx]; rfl)
      have f1 := HB.out.field vwc_size k 1 hpl (by omega) (.int .i64 l[k].leader) (by rw [hpx]; rfl)
      have f2 := HB.out.field vwc_size k 2 hpl (by omega) (.bool l[k].up) (by rw [hpx]; rfl)
      simp only [Nat.add_zero] at f0
      cases hu : l[k].up with
      | false =>
       rw [hu] at f2
       rw [if_neg (by rw [hu]; decide)] at hgk2
       have HN := Lib.hid (hpe hgk2)
       have HE2 := Lib.hid HE.out
       have HB2 := Lib.hid HB.out
       obtain ⟨e0, z0⟩ := f0
       obtain ⟨e1, z1⟩ := f1
       obtain ⟨e2, z2⟩ := f2
       clear hpg hps hpe hgk2 hpx HE HB hu hpl
       go_wp2_with fail
       go_roundg (3 - (k + 1))
       case measure => omega
       case rel => exact ⟨k + 1, by omega, by omega, by go_num, HE2.out, by rw [← HN.out]; exact HB2.out⟩
      | true =>
       rw [hu] at f2
       rw [if_pos hu] at hgk2
       rw [hgk2] at hps
       have hp1 := HB.out.put_field vwc_size k 0 hpl (by omega) ⟨top + 1, l[k].leader, l[k].up⟩ (.int .i64 (top + 1)) (by rw [hpx]; rfl)
       have hp2 := hp1.put_field vwc_size k 1 (by rw [List.length_set]; exact hpl) (by omega) ⟨top + 1, n, true⟩ (.int .i64 n) (by rw [List.getElem_set_self]; simp [vwc, hu])
       rw [List.set_set, hps, Nat.add_zero] at hp2
       have HE2 := Lib.hid HE.out
       have HB2 := Lib.hid hp2
       obtain ⟨e0, z0⟩ := f0
       obtain ⟨e1, z1⟩ := f1
       obtain ⟨e2, z2⟩ := f2
       clear hpg hps hpe hgk2 hpx HE HB hu hpl hp1 hp2
       go_wp2_with fail
       go_roundg (3 - (k + 1))
       case measure => omega
       case rel => exact ⟨k + 1, by omega, by omega, by go_num, (HE2.out.setCell hg1 _).setCell hg1 _, HB2.out⟩
     ·have hk3 : k = 3 := by omega
      subst hk3
      have HB2 := Lib.hid (show OwnL 92 3 vwc w.heap.size wr (.slice (some ⟨g, 0, none⟩) 3 c1) rs by
       have := HB.out
       rwa [List.take_of_length_le (by rw [HRL.out, HL.out]; exact Nat.le_refl _), List.drop_of_length_le (by rw [HL.out]; exact Nat.le_refl _), List.append_nil] at this)
      have HE2 := Lib.hid HE.out
      clear HE HB
      go_wp2_with fail
      refine bodyPost_ret (v := .tuple #[.slice (some ⟨g, 0, none⟩) 3 c1, .bool true, .int .i64 0]) (by simp [results, Tryd.results66, go_sem, *]) rfl ⟨_, rfl, HE2.out, HB2.out⟩

set_option maxHeartbeats 4000000 in
theorem lead_Turn (l : List Vw) (v : Value) (who : Int) (up : Bool) (w : World) (hr : RdL 3 vwc w v l) (hd : ckViews l = 0) :
  Calls Tryd.prog 67 #[v, .int .i64 who, .bool up] w fun e w' => ∃ s', e = .returned (.tuple #[s', .int .i64 (setV l who up).2]) ∧ Ext w w' ∧ OwnL 92 3 vwc w.heap.size w' s' (setV l who up).1 := by
 have hR := (rightV_iff l).1 hd
 have h3 := hR.1
 have HW := Lib.hid (fun w => lead_within who 0 2 w)
 have HCl := Lib.hid (fun (w' : World) (h : Ext w w') => Clone_vw l v w' (hr.ext h) (by omega))
 obtain ⟨A, c, rfl, -, -⟩ := hr.form
 cases hwi : within who 0 2 with
 | false =>
  have hres : setV l who up = ([], 3) := by unfold setV; rw [if_pos hwi]
  rw [hres]
  rw [hwi] at HW
  clear hres hwi hd hR h3
  go_enter Tryd.func67, Tryd.ntmps67
  go_wp2_with (go_at_call 68; refine (HW.out _).mono ?_; rintro e w' ⟨rfl, rfl⟩)
  refine bodyPost_ret (v := .tuple #[.slice none 0 0, .int .i64 3]) (by simp [results, Tryd.results67, go_sem, *]) rfl ⟨_, rfl, Ext.refl _, OwnL.nil⟩
 | true =>
  rw [hwi] at HW
  have hwi2 : 0 ≤ who ∧ who ≤ 2 := by simpa [within] using hwi
  obtain ⟨n, rfl⟩ : ∃ n : Nat, who = n := ⟨who.toNat, by omega⟩
  have hn3 : n < l.length := by omega
  have hres : setV l n up = (l.set n ⟨l[n].epoch, l[n].leader, up⟩, 0) := by
   unfold setV; rw [if_neg (by rw [hwi]; decide), Int.toNat_natCast, modify_set l n hn3]
  rw [hres]
  have hni : (n : Int) < 3 := by omega
  have hn3' : n < 3 := by omega
  have HL := Lib.hid h3
  have HN := Lib.hid hn3
  clear hres hwi hd hR hwi2
  rw [h3] at HCl ⊢
  clear h3
  go_enter Tryd.func67, Tryd.ntmps67
  go_wp2_with (go_at_call 68; refine (HW.out _).mono ?_; rintro e w' ⟨rfl, rfl⟩)
  refine (HCl.out _ (by exact extA)).mono ?_
  rintro e w1 ⟨s1, rfl, h1, ho1⟩
  obtain ⟨g, c1, rfl, hg1, hg2, hg3⟩ := ho1.slot (by rw [HL.out]; omega)
  have f2 := ho1.field vwc_size n 2 HN.out (by omega) (.bool l[n].up) rfl
  have hp2 := ho1.put_field vwc_size n 2 HN.out (by omega) ⟨l[n].epoch, l[n].leader, up⟩ (.bool up) rfl
  obtain ⟨e2, z2⟩ := f2
  have H1 := Lib.hid h1
  have HP := Lib.hid hp2
  rw [HL.out] at HP ⊢
  clear h1 ho1 hp2
  go_wp2_with fail
  refine bodyPost_ret (v := .tuple #[.slice (some ⟨g, 0, none⟩) 3 c1, .int .i64 0]) (by simp [results, Tryd.results67, go_sem, *]) rfl ⟨_, rfl, ?_, HP.out⟩
  exact Ext.setCell H1.out hg1 _

set_option maxHeartbeats 4000000 in
theorem lead_Win (l : List Vw) (v : Value) (who : Int) (w : World) (hr : RdL 3 vwc w v l) :
  Calls Tryd.prog 39 #[v, .int .i64 who] w fun e w' => ∃ s', e = .returned (.tuple #[s', .bool (winAll l who).2.1, .int .i64 (winAll l who).2.2]) ∧ Ext w w' ∧ OwnL 92 3 vwc w.heap.size w' s' (winAll l who).1 := by
 have HC := Lib.hid (fun (w' : World) (h : Ext w w') => lead_Check l v w' (hr.ext h))
 obtain ⟨A, c, rfl, -, -⟩ := hr.form
 by_cases hd : ckViews l = 0
 ·have HW := Lib.hid (fun (w' : World) (h : Ext w w') => lead_Raw l _ who w' (hr.ext h) hd)
  have hn : winAll l who = winV l who := by unfold winAll; rw [if_neg (by rw [hd]; decide)]
  rw [hn]
  rw [hd] at HC
  clear hn hd hr
  generalize winV l who = X at *
  obtain ⟨x1, x2, x3⟩ := X
  simp only at HW ⊢
  go_enter Tryd.func39, Tryd.ntmps39
  go_wp2_with fail
  (refine (HC.out _ (by exact extA)).mono ?_; rintro e w1 ⟨rfl, h1⟩; have H1 := Lib.hid h1; have hz1 := h1.size; clear h1; (try simp only [World.size_alloc, size_set, World.heap_drewN, size_drew] at hz1))
  go_wp2_with fail
  refine (HW.out _ (by exact extA)).mono ?_
  rintro e w2 ⟨s2, rfl, h2, ho2⟩
  obtain ⟨A2, c2, rfl⟩ := ho2.form
  have H2 := Lib.hid h2
  have HO2 := Lib.hid ho2
  have hz := H1.out.size
  clear h2 ho2
  go_wp2_with fail
  refine bodyPost_ret (v := .tuple #[.slice A2 x1.length c2, .bool x2, .int .i64 x3]) (by simp [results, Tryd.results39, go_sem, *]) rfl ⟨_, rfl, ?_, ?_⟩
  ·exact extA
  ·(refine OwnL.lower (base := w1.heap.size) ?_ (by omega); repeat (first | (with_reducible assumption) | (with_reducible exact Hid.out ‹Hid (OwnL _ _ _ _ _ _ _)›) | (with_reducible apply OwnL.setC; focus (simp <;> omega)) | (with_reducible refine OwnL.put ?_ (by assumption) _) | (with_reducible apply OwnL.alloc) | (with_reducible apply OwnL.drew) | (with_reducible apply OwnL.drewN) | (with_reducible refine OwnL.ext ?_ (Hid.out ‹Hid (Ext _ _)›))))
 ·have hn : winAll l who = ([], false, ckViews l) := by unfold winAll; rw [if_pos hd]
  rw [hn]
  have hb : (ckViews l != 0) = true := by simpa using hd
  generalize ckViews l = r at *
  clear hn hd hr
  go_enter Tryd.func39, Tryd.ntmps39
  go_wp2_with fail
  (refine (HC.out _ (by exact extA)).mono ?_; rintro e w1 ⟨rfl, h1⟩; have H1 := Lib.hid h1; have hz1 := h1.size; clear h1; (try simp only [World.size_alloc, size_set, World.heap_drewN, size_drew] at hz1))
  go_wp2_with fail
  refine bodyPost_ret (v := .tuple #[.slice none 0 0, .bool false, .int .i64 r]) (by simp [results, Tryd.results39, go_sem, *]) rfl ⟨_, rfl, ?_, OwnL.nil⟩
  exact extA
set_option maxHeartbeats 4000000 in
theorem lead_Set (l : List Vw) (v : Value) (who : Int) (up : Bool) (w : World) (hr : RdL 3 vwc w v l) :
  Calls Tryd.prog 42 #[v, .int .i64 who, .bool up] w fun e w' => ∃ s', e = .returned (.tuple #[s', .int .i64 (setAll l who up).2]) ∧ Ext w w' ∧ OwnL 92 3 vwc w.heap.size w' s' (setAll l who up).1 := by
 have HC := Lib.hid (fun (w' : World) (h : Ext w w') => lead_Check l v w' (hr.ext h))
 obtain ⟨A, c, rfl, -, -⟩ := hr.form
 by_cases hd : ckViews l = 0
 ·have HW := Lib.hid (fun (w' : World) (h : Ext w w') => lead_Turn l _ who up w' (hr.ext h) hd)
  have hn : setAll l who up = setV l who up := by unfold setAll; rw [if_neg (by rw [hd]; decide)]
  rw [hn]
  rw [hd] at HC
  clear hn hd hr
  generalize setV l who up = X at *
  obtain ⟨x1, x3⟩ := X
  simp only at HW ⊢
  go_enter Tryd.func42, Tryd.ntmps42
  go_wp2_with fail
  (refine (HC.out _ (by exact extA)).mono ?_; rintro e w1 ⟨rfl, h1⟩; have H1 := Lib.hid h1; have hz1 := h1.size; clear h1; (try simp only [World.size_alloc, size_set, World.heap_drewN, size_drew] at hz1))
  go_wp2_with fail
  refine (HW.out _ (by exact extA)).mono ?_
  rintro e w2 ⟨s2, rfl, h2, ho2⟩
  obtain ⟨A2, c2, rfl⟩ := ho2.form
  have H2 := Lib.hid h2
  have HO2 := Lib.hid ho2
  have hz := H1.out.size
  clear h2 ho2
  go_wp2_with fail
  refine bodyPost_ret (v := .tuple #[.slice A2 x1.length c2, .int .i64 x3]) (by simp [results, Tryd.results42, go_sem, *]) rfl ⟨_, rfl, ?_, ?_⟩
  ·exact extA
  ·(refine OwnL.lower (base := w1.heap.size) ?_ (by omega); repeat (first | (with_reducible assumption) | (with_reducible exact Hid.out ‹Hid (OwnL _ _ _ _ _ _ _)›) | (with_reducible apply OwnL.setC; focus (simp <;> omega)) | (with_reducible refine OwnL.put ?_ (by assumption) _) | (with_reducible apply OwnL.alloc) | (with_reducible apply OwnL.drew) | (with_reducible apply OwnL.drewN) | (with_reducible refine OwnL.ext ?_ (Hid.out ‹Hid (Ext _ _)›))))
 ·have hn : setAll l who up = ([], ckViews l) := by unfold setAll; rw [if_pos hd]
  rw [hn]
  have hb : (ckViews l != 0) = true := by simpa using hd
  generalize ckViews l = r at *
  clear hn hd hr
  go_enter Tryd.func42, Tryd.ntmps42
  go_wp2_with fail
  (refine (HC.out _ (by exact extA)).mono ?_; rintro e w1 ⟨rfl, h1⟩; have H1 := Lib.hid h1; have hz1 := h1.size; clear h1; (try simp only [World.size_alloc, size_set, World.heap_drewN, size_drew] at hz1))
  go_wp2_with fail
  refine bodyPost_ret (v := .tuple #[.slice none 0 0, .int .i64 r]) (by simp [results, Tryd.results42, go_sem, *]) rfl ⟨_, rfl, ?_, OwnL.nil⟩
  exact extA
end Go.Proofs.YteojjbhadgkfgaaDoor

/- The references on views: CheckViews, WhoOf, SameViews; viewsAre. -/
namespace Go.Proofs.YteojjbhadgkfgaaDoor
set_option linter.unusedSimpArgs false
set_option linter.unusedVariables false
set_option maxRecDepth 100000
open Go Go.RowKit Lb

end Go.Proofs.YteojjbhadgkfgaaDoor

/- The references' CheckViews. -/
namespace Go.Proofs.YteojjbhadgkfgaaDoor
set_option linter.unusedSimpArgs false
set_option linter.unusedVariables false
set_option maxRecDepth 100000
open Go Go.RowKit Lb

end Go.Proofs.YteojjbhadgkfgaaDoor

/- The references' WinOf and SetOf. -/
namespace Go.Proofs.YteojjbhadgkfgaaDoor
set_option linter.unusedSimpArgs false
set_option linter.unusedVariables false
set_option maxRecDepth 100000
open Go Go.RowKit Lb

end Go.Proofs.YteojjbhadgkfgaaDoor

/- The laws' leadBegun. -/
namespace Go.Proofs.YteojjbhadgkfgaaDoor
set_option linter.unusedSimpArgs false
set_option linter.unusedVariables false
set_option maxRecDepth 100000
open Go Go.RowKit Lb

def wonViews : List Vw := [⟨1, 1, true⟩, ⟨1, 1, true⟩, ⟨1, 1, true⟩]
def downViews : List Vw := [⟨1, 1, true⟩, ⟨1, 1, false⟩, ⟨1, 1, true⟩]
theorem vb_win (s : Value) (w : World) (hr : RdL 3 vwc w s newViews) :
  Calls Tryd.prog 39 #[s, .int .i64 1] w fun e w' => ∃ s', e = .returned (.tuple #[s', .bool true, .int .i64 0]) ∧ Ext w w' ∧ OwnL 92 3 vwc w.heap.size w' s' wonViews := by
 have h := lead_Win newViews s 1 w hr
 rw [show winAll newViews 1 = (wonViews, true, 0) from by decide +kernel] at h
 exact h
theorem vb_now (s : Value) (w : World) (hr : RdL 3 vwc w s wonViews) :
  Calls Tryd.prog 41 #[s] w fun e w' => e = .returned (.tuple #[.int .i64 1, .bool true, .int .i64 0]) ∧ Ext w w' := by
 have h := lead_Now wonViews s w hr
 rw [show nowAll wonViews = (1, true, 0) from by decide +kernel] at h
 exact h
theorem vb_set (s : Value) (w : World) (hr : RdL 3 vwc w s wonViews) :
  Calls Tryd.prog 42 #[s, .int .i64 1, .bool false] w fun e w' => ∃ s', e = .returned (.tuple #[s', .int .i64 0]) ∧ Ext w w' ∧ OwnL 92 3 vwc w.heap.size w' s' downViews := by
 have h := lead_Set wonViews s 1 false w hr
 rw [show setAll wonViews 1 false = (downViews, 0) from by decide +kernel] at h
 exact h
theorem vb_now2 (s : Value) (w : World) (hr : RdL 3 vwc w s downViews) :
  Calls Tryd.prog 41 #[s] w fun e w' => e = .returned (.tuple #[.int .i64 0, .bool false, .int .i64 0]) ∧ Ext w w' := by
 have h := lead_Now downViews s w hr
 rw [show nowAll downViews = (0, false, 0) from by decide +kernel] at h
 exact h
theorem vb_check (s : Value) (w : World) (hr : RdL 3 vwc w s wonViews) :
  Calls Tryd.prog 43 #[s] w fun e w' => e = .returned (.int .i64 0) ∧ Ext w w' := by
 have h := lead_Check wonViews s w hr
 rw [show ckViews wonViews = 0 from by decide +kernel] at h
 exact h

theorem views_of (a b c : Value) (d : Int) (e gs vs : Value) (w : World) : (Instr.field 32 (.agg #[a, b, c, .int .i64 d, e, gs, vs]) 3).run Tryd.prog w = .ok vs w := by
 simp [go_sem, Instr.field, asAgg]

set_option maxHeartbeats 4000000 in
theorem law_leadBegun (w : World) :
  Calls Tryd.prog 13 #[] w fun e w' => e = .returned (.bool true) ∧ Ext w w' := by
 go_enter Tryd.func13, Tryd.ntmps13
 go_wp2_with fail
 refine (station_New _).mono ?_
 rintro e w0 ⟨gs, vs, rfl, h0, hog, hov⟩
 obtain ⟨Ag, cg, rfl⟩ := hog.form
 obtain ⟨Av, cv, rfl⟩ := hov.form
 have hvo := views_of (.slice none 0 0) (.slice none 0 0) (.slice none 0 0) 0 (.slice none 0 0) (.slice Ag newGates.length cg) (.slice Av newViews.length cv)
 have H0 := Lib.hid h0
 have HV := Lib.hid (hov.rd vwc_size)
 clear h0 hog hov
 go_wp2_with fail
 (refine (vb_win _ _ (HV.out.ext (by exact extA))).mono ?_; rintro e w1 ⟨s1, rfl, h1, ho1⟩; obtain ⟨A1, c1, rfl⟩ := ho1.form; have H1 := Lib.hid h1; have HO1 := Lib.hid (OwnL.rd ho1 vwc_size); clear h1 ho1)
 go_wp2_with fail
 (refine (vb_now _ _ (HO1.out.ext (by exact extA))).mono ?_; rintro e w2 ⟨rfl, h2⟩; have H2 := Lib.hid h2; have hz2 := h2.size; clear h2; (try simp only [World.size_alloc, size_set, World.heap_drewN, size_drew] at hz2))
 go_wp2_with fail
 (refine (vb_set _ _ (HO1.out.ext (by exact extA))).mono ?_; rintro e w3 ⟨s3, rfl, h3, ho3⟩; obtain ⟨A3, c3, rfl⟩ := ho3.form; have H3 := Lib.hid h3; have HO3 := Lib.hid (OwnL.rd ho3 vwc_size); clear h3 ho3)
 go_wp2_with fail
 (refine (vb_now2 _ _ (HO3.out.ext (by exact extA))).mono ?_; rintro e w4 ⟨rfl, h4⟩; have H4 := Lib.hid h4; have hz4 := h4.size; clear h4; (try simp only [World.size_alloc, size_set, World.heap_drewN, size_drew] at hz4))
 go_wp2_with fail
 (refine (vb_check _ _ (HO1.out.ext (by exact extA))).mono ?_; rintro e w5 ⟨rfl, h5⟩; have H5 := Lib.hid h5; have hz5 := h5.size; clear h5; (try simp only [World.size_alloc, size_set, World.heap_drewN, size_drew] at hz5))
 go_wp2_with fail
 go_ret
 refine ⟨ret_bool rfl, ?_⟩
 exact extA
end Go.Proofs.YteojjbhadgkfgaaDoor
