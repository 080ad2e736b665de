/- The law GateBounds. -/
import Derived.Test.YthollackhkiofaaGtK
import Derived.Test.YthollackhkiofaaGtL
import Derived.Test.YthollackhkiofaaRegE
namespace Go.Proofs.Ythollackhkiofaa
set_option linter.unusedSimpArgs false
set_option linter.unusedVariables false
set_option maxRecDepth 100000
open Go Go.RowKit Lb

/-- v does not lie in block g, if there is anything in it -/
def Far {α : Type} (g : Nat) (v : Value) (l : List α) : Prop := ∀ b o n c, 0 < l.length → v = .slice (some ⟨b, o, none⟩) n c → b ≠ g
theorem RdL.putF {α : Type} [Inhabited α] {enc : α → Array Value} {k : Nat} {w : World} {v : Value} {l : List α} {p : Addr} {u : Value} (h : RdL k enc w v l) (hf : Far p.block v l) : RdL k enc (w.setCell p u) v l := by
  obtain ⟨A, c, rfl, h1, h2, h3⟩ := h
  refine ⟨A, c, rfl, h1, h2, fun hn => ?_⟩
  obtain ⟨b, o, rfl, hb, hc⟩ := h3 hn
  have hne := hf b o _ _ hn rfl
  refine ⟨b, o, rfl, by simpa using hb, fun j hj i x hx => ?_⟩
  rw [World.cell?_setCell_other _ _ _ _ (fun e => hne (by rw [e]))]
  exact hc j hj i x hx
theorem RdL.far_of {α : Type} [Inhabited α] {enc : α → Array Value} {k : Nat} {w : World} {v : Value} {l : List α} {g : Nat} (h : RdL k enc w v l) (hg : w.heap.size ≤ g) : Far g v l := by
  intro b o n c hn hv
  obtain ⟨A, c', hv', h1, h2, h3⟩ := h
  obtain ⟨b', o', rfl, hb, -⟩ := h3 hn
  rw [hv] at hv'
  injection hv' with ha
  injection ha with ha
  injection ha with ha
  omega
theorem OwnL.far_of {α : Type} {enc : α → Array Value} {e : TypeId} {k base : Nat} {w : World} {v : Value} {l : List α} {g : Nat} (h : OwnL e k enc base w v l) (hg : g < base) : Far g v l := by
  intro b o n c hn hv
  obtain ⟨g', c', rfl, hb, hs, -⟩ := h.slot hn
  injection hv with ha
  injection ha with ha
  injection ha with ha
  omega
theorem OwnL.ne_of {α : Type} {enc : α → Array Value} {e : TypeId} {k base : Nat} {w : World} {v : Value} {l : List α} (h : OwnL e k enc base w v l) (b : Nat) (hb : b < base ∨ w.heap.size ≤ b) : v.ownBlock ≠ some b := fun hq => by
  have := h.lt b hq
  omega
theorem row8 {w : World} {g : Nat} {c0 c1 c2 c3 c4 c5 c6 c7 : Value} (h : Row w g #[c0, c1, c2, c3, c4, c5, c6, c7]) (v0 v1 v2 v3 v4 v5 v6 v7 : Value) : Row ((((((((w.setCell ⟨g, 0, none⟩ v0).setCell ⟨g, 1, none⟩ v1).setCell ⟨g, 2, none⟩ v2).setCell ⟨g, 3, none⟩ v3).setCell ⟨g, 4, none⟩ v4).setCell ⟨g, 5, none⟩ v5).setCell ⟨g, 6, none⟩ v6).setCell ⟨g, 7, none⟩ v7) g #[v0, v1, v2, v3, v4, v5, v6, v7] := by
  have := (((((((h.set_ (i := 0) (u := v0)).set_ (i := 1) (u := v1)).set_ (i := 2) (u := v2)).set_ (i := 3) (u := v3)).set_ (i := 4) (u := v4)).set_ (i := 5) (u := v5)).set_ (i := 6) (u := v6)).set_ (i := 7) (u := v7)
  simpa only [List.setIfInBounds_toArray, List.set_cons_zero, List.set_cons_succ] using this
theorem row5 {w : World} {g : Nat} {c0 c1 c2 c3 c4 : Value} (h : Row w g #[c0, c1, c2, c3, c4]) (v0 v1 v2 v3 v4 : Value) : Row (((((w.setCell ⟨g, 0, none⟩ v0).setCell ⟨g, 1, none⟩ v1).setCell ⟨g, 2, none⟩ v2).setCell ⟨g, 3, none⟩ v3).setCell ⟨g, 4, none⟩ v4) g #[v0, v1, v2, v3, v4] := by
  have := ((((h.set_ (i := 0) (u := v0)).set_ (i := 1) (u := v1)).set_ (i := 2) (u := v2)).set_ (i := 3) (u := v3)).set_ (i := 4) (u := v4)
  simpa only [List.setIfInBounds_toArray, List.set_cons_zero, List.set_cons_succ] using this

theorem far8 {w : World} {g b : Nat} {cs : Array Value} {v0 v1 v2 v3 v4 v5 v6 v7 : Value} (h : Row w b cs) (hb : b ≠ g) : Row ((((((((w.setCell ⟨g, 0, none⟩ v0).setCell ⟨g, 1, none⟩ v1).setCell ⟨g, 2, none⟩ v2).setCell ⟨g, 3, none⟩ v3).setCell ⟨g, 4, none⟩ v4).setCell ⟨g, 5, none⟩ v5).setCell ⟨g, 6, none⟩ v6).setCell ⟨g, 7, none⟩ v7) b cs :=
  Row.far hb (Row.far hb (Row.far hb (Row.far hb (Row.far hb (Row.far hb (Row.far hb (Row.far hb h)))))))
theorem far5 {w : World} {g b : Nat} {cs : Array Value} {v0 v1 v2 v3 v4 : Value} (h : Row w b cs) (hb : b ≠ g) : Row (((((w.setCell ⟨g, 0, none⟩ v0).setCell ⟨g, 1, none⟩ v1).setCell ⟨g, 2, none⟩ v2).setCell ⟨g, 3, none⟩ v3).setCell ⟨g, 4, none⟩ v4) b cs :=
  Row.far hb (Row.far hb (Row.far hb (Row.far hb (Row.far hb h))))
theorem putF8 {α : Type} [Inhabited α] {enc : α → Array Value} {k : Nat} {w : World} {v : Value} {l : List α} {g : Nat} {v0 v1 v2 v3 v4 v5 v6 v7 : Value} (h : RdL k enc w v l) (hf : Far g v l) : RdL k enc ((((((((w.setCell ⟨g, 0, none⟩ v0).setCell ⟨g, 1, none⟩ v1).setCell ⟨g, 2, none⟩ v2).setCell ⟨g, 3, none⟩ v3).setCell ⟨g, 4, none⟩ v4).setCell ⟨g, 5, none⟩ v5).setCell ⟨g, 6, none⟩ v6).setCell ⟨g, 7, none⟩ v7) v l :=
  (((((((h.putF hf).putF hf).putF hf).putF hf).putF hf).putF hf).putF hf).putF hf
theorem putF5 {α : Type} [Inhabited α] {enc : α → Array Value} {k : Nat} {w : World} {v : Value} {l : List α} {g : Nat} {v0 v1 v2 v3 v4 : Value} (h : RdL k enc w v l) (hf : Far g v l) : RdL k enc (((((w.setCell ⟨g, 0, none⟩ v0).setCell ⟨g, 1, none⟩ v1).setCell ⟨g, 2, none⟩ v2).setCell ⟨g, 3, none⟩ v3).setCell ⟨g, 4, none⟩ v4) v l :=
  ((((h.putF hf).putF hf).putF hf).putF hf).putF hf

theorem RdL.tk_at {w : World} {v : Value} {l : List Tk} (h : RdL 6 tkc w v l) {A : Option Addr} {n c : Nat} (hv : v = .slice A n c) {k : Nat} (hk : k < l.length) : ∃ b o, A = some ⟨b, o, none⟩ ∧ b < w.heap.size ∧
    w.cell? ⟨b, o + k * 6, none⟩ = some (.int .i64 l[k].id) ∧ w.cell? ⟨b, o + k * 6 + 1, none⟩ = some (.int .i64 l[k].kind) ∧ w.cell? ⟨b, o + k * 6 + 2, none⟩ = some (.int .i64 l[k].frm) ∧ w.cell? ⟨b, o + k * 6 + 3, none⟩ = some (.int .i64 l[k].til) ∧ w.cell? ⟨b, o + k * 6 + 4, none⟩ = some (.int .i64 l[k].zones) ∧ w.cell? ⟨b, o + k * 6 + 5, none⟩ = some (.int .i64 l[k].rides) := by
  obtain ⟨b, o, c', hv', hb, hc⟩ := h.at_ hk
  rw [hv] at hv'
  injection hv' with ha
  exact ⟨b, o, ha, hb, hc 0 _ rfl, hc 1 _ rfl, hc 2 _ rfl, hc 3 _ rfl, hc 4 _ rfl, hc 5 _ rfl⟩

theorem twice_no {X : Gt} {k id : Int} (h : k ≠ 2 → twiceG X id = false) (hk : k ≠ 2) (j : Nat) (hj : j < X.alone.length) : (X.alone[j].ticket == id) = false := by
  have := h hk
  unfold twiceG at this
  rw [List.any_eq_false] at this
  simpa using this _ (List.getElem_mem hj)
theorem check_right (X : Gt) (hX : ckGate X = 0) (s1 s2 : Value) (w : World) (h1 : RdL 5 tpc w s1 X.alone) (h2 : RdL 1 inc w s2 X.denied.ids) :
    Calls Try.prog 42 #[.agg #[.int .i64 X.id, .int .i64 X.zone, .int .i64 X.seq, s1, .int .i64 X.denied.version, s2, .int .i64 X.left, .int .i64 X.untl]] w fun e w' => e = .returned (.int .i64 0) ∧ Ext w w' := by
  have h := gate_Check X s1 s2 w h1 h2
  rw [hX] at h
  exact h
theorem has_no (l : List Int) (n : Int) (hn : l.contains n = false) (v : Value) (w : World) (hr : RdL 1 inc w v l) :
    Calls Try.prog 33 #[v, .int .i64 n] w fun e w' => e = .returned (.bool false) ∧ w = w' := by
  have h := ref_HasInt l n v w hr
  rw [hn] at h
  exact h
theorem same_self (l : List Tp) (v u : Value) (w : World) (hr : RdL 5 tpc w v l) (hs : RdL 5 tpc w u l) :
    Calls Try.prog 44 #[v, u] w fun e w' => e = .returned (.bool true) ∧ Ext w w' := by
  have h := ref_SameTaps l l v u w hr hs
  rw [show (l == l) = true by simp] at h
  exact h

set_option maxHeartbeats 64000000 in
theorem law_GateBounds (g : Gt) (sa si : Value) (l : List Tk) (v : Value) (times : List Int) (u : Value) (w : World) (hr : RdL 5 tpc w sa g.alone) (hs : RdL 1 inc w si g.denied.ids) (hl : RdL 6 tkc w v l) (hu : RdL 1 inc w u times) :
    Calls Try.prog 10 #[.agg (gta g sa si), v, u] w fun e w' => e = .returned (.bool true) ∧ Ext w w' := by
  have HB := Lib.hid (fun (w' : World) => law_gateBegun w')
  have HCk := Lib.hid (fun (w' : World) (h : Ext w w') => gate_Check g sa si w' (hr.ext h) (hs.ext h))
  have HTap := Lib.hid (fun (X : Gt) (s1 s2 : Value) (t : Tk) (time : Int) (w' : World) (h1 : RdL 5 tpc w' s1 X.alone) (h2 : RdL 1 inc w' s2 X.denied.ids) => gate_Tap X s1 s2 t time w' h1 h2)
  have HRg := Lib.hid hr
  have HSg := Lib.hid hs
  have HL := Lib.hid hl
  have HU := Lib.hid hu
  obtain ⟨A, c, rfl, -, -⟩ := hr.form
  obtain ⟨A2, c2, rfl, -, -⟩ := hs.form
  obtain ⟨A3, c3, rfl, h3m, h3x⟩ := hl.form
  obtain ⟨A4, c4, rfl, h4m, h4x⟩ := hu.form
  have hm3 : l.length ≤ 9223372036854775807 := by unfold maxLen at h3x; omega
  have hm4 : times.length ≤ 9223372036854775807 := by unfold maxLen at h4x; omega
  clear hr hs hl hu h3m h3x h4m h4x
  generalize hck : ckGate g = cg at *
  have HCKG := Lib.hid hck
  clear hck
  unfold gta at HCk ⊢

  by_cases h0 : cg = 0
  · subst h0
    go_enter Try.func10, Try.ntmps10
    go_wp2_with fail
    (refine (HB.out _).mono ?_; rintro e w1 ⟨rfl, h1⟩; have H1 := Lib.hid h1; have hz1 := h1.size; clear h1; (try simp only [World.size_alloc, size_set, World.heap_drewN, size_drew] at hz1); apply Row.use (w := w1) (g := w.heap.size); (focus (repeat (first | (with_reducible exact Hid.out ‹Hid (Row _ _ _)›) | (with_reducible exact Row.newAt rfl) | (with_reducible apply Row.newAt; (simp; done)) | (with_reducible apply Row.set_) | (with_reducible apply Row.far; focus (simp <;> omega)) | (with_reducible apply Row.alloc) | (with_reducible apply Row.drew) | (with_reducible apply Row.drewN) | (with_reducible apply Row.ext (Hid.out ‹Hid (Ext _ _)›))))); intro q1_0 f1_0 l1_0 R1_0; (try simp only [List.setIfInBounds_toArray, List.set_cons_zero, List.set_cons_succ] at q1_0 R1_0))
    go_wp2_with fail
    (refine (HCk.out _ (by repeat (first | (with_reducible exact Ext.refl _) | (with_reducible refine Ext.alloc ?_ _) | (with_reducible apply Ext.setC; focus (simp <;> omega)) | (with_reducible refine Ext.drew ?_) | (with_reducible refine Ext.drewN ?_ _) | (with_reducible refine Ext.trans ?_ (Hid.out ‹Hid (Ext _ _)›))))).mono ?_; rintro e w2 ⟨rfl, h2⟩; have H2 := Lib.hid h2; have hz2 := h2.size; clear h2; (try simp only [World.size_alloc, size_set, World.heap_drewN, size_drew] at hz2); apply Row.use (w := w2) (g := w.heap.size); (focus (repeat (first | (with_reducible exact Hid.out ‹Hid (Row _ _ _)›) | (with_reducible exact Row.newAt rfl) | (with_reducible apply Row.newAt; (simp; done)) | (with_reducible apply Row.set_) | (with_reducible apply Row.far; focus (simp <;> omega)) | (with_reducible apply Row.alloc) | (with_reducible apply Row.drew) | (with_reducible apply Row.drewN) | (with_reducible apply Row.ext (Hid.out ‹Hid (Ext _ _)›))))); intro q2_0 f2_0 l2_0 R2_0; (try simp only [List.setIfInBounds_toArray, List.set_cons_zero, List.set_cons_succ] at q2_0 R2_0))
    have hq2 : Ext w w2 := by repeat (first | (with_reducible exact Ext.refl _) | (with_reducible refine Ext.alloc ?_ _) | (with_reducible apply Ext.setC; focus (simp <;> omega)) | (with_reducible refine Ext.drew ?_) | (with_reducible refine Ext.drewN ?_ _) | (with_reducible refine Ext.trans ?_ (Hid.out ‹Hid (Ext _ _)›)))
    have HE2 := Lib.hid hq2
    clear hq2
    go_wp2_with fail
    go_loopg [7, 9] (l.length) (fun gg s7 s9 wr => ∃ (k : Nat) (X : Gt) (xs xi : Value), k ≤ l.length ∧ l.length - k ≤ gg ∧ s7 = .int .i64 X.left ∧ s9 = .int .i64 k ∧ Aside (ckGate X = 0 ∧ X.zone = g.zone ∧ X.untl = g.untl ∧ X.denied = g.denied) ∧
      Aside (Ext w wr ∧ Row wr w.heap.size #[.int .i64 g.id, .int .i64 g.zone, .int .i64 g.seq, .slice A g.alone.length c, .int .i64 g.denied.version, .slice A2 g.denied.ids.length c2, .int .i64 g.left, .int .i64 g.untl] ∧ Row wr w2.heap.size #[.int .i64 X.id, .int .i64 X.zone, .int .i64 X.seq, xs, .int .i64 X.denied.version, xi, .int .i64 X.left, .int .i64 X.untl] ∧ RdL 5 tpc wr xs X.alone ∧ RdL 1 inc wr xi X.denied.ids))
    case atStart => exact ⟨0, g, .slice A g.alone.length c, .slice A2 g.denied.ids.length c2, by omega, by omega, rfl, rfl, ⟨HCKG.out, rfl, rfl, rfl⟩, (show Ext w _ by repeat (first | (with_reducible exact Ext.refl _) | (with_reducible refine Ext.alloc ?_ _) | (with_reducible apply Ext.setC; focus (simp <;> omega)) | (with_reducible refine Ext.drew ?_) | (with_reducible refine Ext.drewN ?_ _) | (with_reducible refine Ext.trans ?_ (Hid.out ‹Hid (Ext _ _)›)))), by repeat (first | (with_reducible exact Hid.out ‹Hid (Row _ _ _)›) | (with_reducible exact Row.newAt rfl) | (with_reducible apply Row.newAt; (simp; done)) | (with_reducible apply Row.set_) | (with_reducible apply Row.far; focus (simp <;> omega)) | (with_reducible apply Row.alloc) | (with_reducible apply Row.drew) | (with_reducible apply Row.drewN) | (with_reducible apply Row.ext (Hid.out ‹Hid (Ext _ _)›))), Row.newAt rfl, HRg.out.ext (by repeat (first | (with_reducible exact Ext.refl _) | (with_reducible refine Ext.alloc ?_ _) | (with_reducible apply Ext.setC; focus (simp <;> omega)) | (with_reducible refine Ext.drew ?_) | (with_reducible refine Ext.drewN ?_ _) | (with_reducible refine Ext.trans ?_ (Hid.out ‹Hid (Ext _ _)›)))), HSg.out.ext (by repeat (first | (with_reducible exact Ext.refl _) | (with_reducible refine Ext.alloc ?_ _) | (with_reducible apply Ext.setC; focus (simp <;> omega)) | (with_reducible refine Ext.drew ?_) | (with_reducible refine Ext.drewN ?_ _) | (with_reducible refine Ext.trans ?_ (Hid.out ‹Hid (Ext _ _)›))))⟩
    case round =>
      obtain ⟨k, X, xs, xi, hk, hg, rfl, rfl, HP, HV⟩ := hrel
      have HE := Lib.hid HV.out.1
      have HR0 := Lib.hid HV.out.2.1
      have HR1 := Lib.hid HV.out.2.2.1
      have HXS := Lib.hid HV.out.2.2.2.1
      have HXI := Lib.hid HV.out.2.2.2.2
      have HPX := Lib.hid HP.out
      clear HV HP
      obtain ⟨X1, x1, rfl, -, -⟩ := HXS.out.form
      obtain ⟨X2, x2, rfl, -, -⟩ := HXI.out.form
      (apply Row.use (w := wr) (g := w.heap.size); (focus (repeat (first | (with_reducible exact Hid.out ‹Hid (Row _ _ _)›) | (with_reducible exact Row.newAt rfl) | (with_reducible apply Row.newAt; (simp; done)) | (with_reducible apply Row.set_) | (with_reducible apply Row.far; focus (simp <;> omega)) | (with_reducible apply Row.alloc) | (with_reducible apply Row.drew) | (with_reducible apply Row.drewN) | (with_reducible apply Row.ext (Hid.out ‹Hid (Ext _ _)›))))); intro qr_0 fr_0 lr_0 Rr_0; (try simp only [List.setIfInBounds_toArray, List.set_cons_zero, List.set_cons_succ] at qr_0 Rr_0); apply Row.use (w := wr) (g := w2.heap.size); (focus (repeat (first | (with_reducible exact Hid.out ‹Hid (Row _ _ _)›) | (with_reducible exact Row.newAt rfl) | (with_reducible apply Row.newAt; (simp; done)) | (with_reducible apply Row.set_) | (with_reducible apply Row.far; focus (simp <;> omega)) | (with_reducible apply Row.alloc) | (with_reducible apply Row.drew) | (with_reducible apply Row.drewN) | (with_reducible apply Row.ext (Hid.out ‹Hid (Ext _ _)›))))); intro qr_1 fr_1 lr_1 Rr_1; (try simp only [List.setIfInBounds_toArray, List.set_cons_zero, List.set_cons_succ] at qr_1 Rr_1))
      by_cases hlt : k < l.length
      · have hlt' : (k : Int) < (l.length : Int) := by omega
        by_cases hlu : k < times.length
        · have hlu' : (k : Int) < (times.length : Int) := by omega
          obtain ⟨tb, tof, rfl, htb, c0, c1, c2', c3', c4', c5⟩ := (HL.out.ext HE.out).tk_at rfl hlt
          obtain ⟨ub, uo, rfl, hub, d0⟩ := (HU.out.ext HE.out).int_at rfl hlu
          generalize l[k] = t at *
          generalize times[k] = time at *
          have HT := Lib.hid (fun (w' : World) (h : Ext wr w') => HTap.out X (.slice X1 X.alone.length x1) (.slice X2 X.denied.ids.length x2) t time w' (HXS.out.ext h) (HXI.out.ext h))
          have hye := @tapAll_err X t time
          have hyo := @tapAll_ok X t time
          have hyr := @tapped_right X t time
          generalize hY : tapAll X t time = Y at *
          obtain ⟨⟨y0, y1, y2, yl, ⟨yv, yi⟩, y6, y7⟩, ⟨p0, p1, p2, p3, p4⟩, E⟩ := Y
          have HYE := Lib.hid hye
          have HYO := Lib.hid hyo
          have HYR := Lib.hid hyr
          clear hye hyo hyr hY
          obtain ⟨t0, t1, t2, t3, t4, t5⟩ := t
          unfold gta tkc tpc at HT
          simp only at HT c0 c1 c2' c3' c4' c5
          go_wp2_with fail
          have HKeep := Lib.hid (fun (w' : World) (h : Ext wr w') => (show (∀ o, w'.cell? ⟨w2.heap.size, o, none⟩ = (#[.int .i64 X.id, .int .i64 X.zone, .int .i64 X.seq, .slice X1 X.alone.length x1, .int .i64 X.denied.version, .slice X2 X.denied.ids.length x2, .int .i64 X.left, .int .i64 X.untl] : Array Value)[o]?) ∧ w'.cell? ⟨tb, tof + k * 6, none⟩ = some (.int .i64 t0) ∧ w'.cell? ⟨tb, tof + k * 6 + 1, none⟩ = some (.int .i64 t1) ∧ w'.cell? ⟨tb, tof + k * 6 + 2, none⟩ = some (.int .i64 t2) ∧ w'.cell? ⟨tb, tof + k * 6 + 3, none⟩ = some (.int .i64 t3) ∧ w'.cell? ⟨tb, tof + k * 6 + 4, none⟩ = some (.int .i64 t4) ∧ w'.cell? ⟨tb, tof + k * 6 + 5, none⟩ = some (.int .i64 t5) ∧ w'.cell? ⟨ub, uo + k, none⟩ = some (.int .i64 time) ∧ Ext wr w' from
            ⟨(Row.ext h Rr_1.out).2.1, (h.cells _ _ htb).trans c0, (h.cells _ _ htb).trans c1, (h.cells _ _ htb).trans c2', (h.cells _ _ htb).trans c3', (h.cells _ _ htb).trans c4', (h.cells _ _ htb).trans c5, (h.cells _ _ hub).trans d0, h⟩))
          go_upto_region 11 with fail
          go_cut [10, 11, 12] (fun s10 s11 s12 wx => ∃ (b10 b11 : Nat) (A1 : Option Addr) (c1 : Nat) (B1 : Option Addr) (d1 : Nat), s10 = .pointer (some ⟨b10, 0, none⟩) ∧ s11 = .pointer (some ⟨b11, 0, none⟩) ∧ s12 = .int .i64 E ∧ Aside (Ext wr wx ∧ wr.heap.size ≤ b10 ∧ wr.heap.size ≤ b11 ∧ Row wx b10 #[.int .i64 y0, .int .i64 y1, .int .i64 y2, .slice A1 yl.length c1, .int .i64 yv, .slice B1 yi.length d1, .int .i64 y6, .int .i64 y7] ∧ Row wx b11 #[.int .i64 p0, .int .i64 p1, .int .i64 p2, .int .i64 p3, .int .i64 p4] ∧ RdL 5 tpc wx (.slice A1 yl.length c1) yl ∧ RdL 1 inc wx (.slice B1 yi.length d1) yi ∧ Far w2.heap.size (.slice A1 yl.length c1) yl ∧ Far w2.heap.size (.slice B1 yi.length d1) yi))
          case first =>
            go_wp2_with fail
            go_region_held3 (fun w' => (∀ o, w'.cell? ⟨w2.heap.size, o, none⟩ = (#[.int .i64 X.id, .int .i64 X.zone, .int .i64 X.seq, .slice X1 X.alone.length x1, .int .i64 X.denied.version, .slice X2 X.denied.ids.length x2, .int .i64 X.left, .int .i64 X.untl] : Array Value)[o]?) ∧ w'.cell? ⟨tb, tof + k * 6, none⟩ = some (.int .i64 t0) ∧ w'.cell? ⟨tb, tof + k * 6 + 1, none⟩ = some (.int .i64 t1) ∧ w'.cell? ⟨tb, tof + k * 6 + 2, none⟩ = some (.int .i64 t2) ∧ w'.cell? ⟨tb, tof + k * 6 + 3, none⟩ = some (.int .i64 t3) ∧ w'.cell? ⟨tb, tof + k * 6 + 4, none⟩ = some (.int .i64 t4) ∧ w'.cell? ⟨tb, tof + k * 6 + 5, none⟩ = some (.int .i64 t5) ∧ w'.cell? ⟨ub, uo + k, none⟩ = some (.int .i64 time) ∧ Ext wr w')
              (first | (refine HKeep.out _ ?_; (repeat (first | (with_reducible exact Ext.refl _) | (with_reducible refine Ext.alloc ?_ _) | (with_reducible apply Ext.setC; focus (simp <;> omega)) | (with_reducible refine Ext.drew ?_) | (with_reducible refine Ext.drewN ?_ _) | (with_reducible refine Ext.trans ?_ (Hid.out ‹Hid (Ext _ _)›)))); done))
              (first | (go_at_call 35; refine (HT.out _ (by repeat (first | (with_reducible exact Ext.refl _) | (with_reducible refine Ext.alloc ?_ _) | (with_reducible apply Ext.setC; focus (simp <;> omega)) | (with_reducible refine Ext.drew ?_) | (with_reducible refine Ext.drewN ?_ _) | (with_reducible refine Ext.trans ?_ (Hid.out ‹Hid (Ext _ _)›))))).mono ?_; rintro e w5 ⟨sa5, si5, rfl, h5, ho5, hi5⟩; have hneA := OwnL.ne_of ho5; have hneB := OwnL.ne_of hi5; have hfA := fun h => OwnL.far_of (g := w2.heap.size) ho5 h; have hfB := fun h => OwnL.far_of (g := w2.heap.size) hi5 h; have HO5 := Lib.hid (show OwnL 64 5 tpc _ _ _ _ from ho5); have HI5 := Lib.hid hi5; obtain ⟨A5, k5, rfl⟩ := ho5.form; obtain ⟨B5, e5, rfl⟩ := hi5.form; have hc5 := h5.cells; have hf5 := h5.frozs; have hz5 := h5.size; have H5 := Lib.hid h5; clear h5 ho5 hi5; (try simp only [World.size_alloc, size_set, World.heap_drewN, size_drew] at hz5 hneA hneB hfA hfB); have HNA := Lib.hid hneA; have HNB := Lib.hid hneB; have HFA := Lib.hid (hfA (by omega)); have HFB := Lib.hid (hfB (by omega)); clear hneA hneB hfA hfB; (try (have hq5 : wr.heap.size < w5.heap.size := by omega)); (try (have hp5 : wr.heap.size + 1 < w5.heap.size := by omega))))
            · go_wp2_with fail
              go_meet
              case rel => exact ⟨_, _, A5, k5, B5, e5, rfl, rfl, rfl, ⟨(show Ext wr _ by repeat (first | (with_reducible exact Ext.refl _) | (with_reducible refine Ext.alloc ?_ _) | (with_reducible apply Ext.setC; focus (simp <;> omega)) | (with_reducible refine Ext.drew ?_) | (with_reducible refine Ext.drewN ?_ _) | (with_reducible refine Ext.trans ?_ (Hid.out ‹Hid (Ext _ _)›)))), (by omega), (by omega), Row.alloc (Row.newAt rfl), Row.newAt (by simp), (HO5.out.rd tpc_size).ext (((Ext.refl _).alloc _).alloc _), (HI5.out.rd inc_size).ext (((Ext.refl _).alloc _).alloc _), HFA.out, HFB.out⟩⟩
            · go_wp2_with fail
              go_meet
              case rel => exact ⟨_, _, A5, k5, B5, e5, rfl, rfl, rfl, ⟨(show Ext wr _ by repeat (first | (with_reducible exact Ext.refl _) | (with_reducible refine Ext.alloc ?_ _) | (with_reducible apply Ext.setC; focus (simp <;> omega)) | (with_reducible refine Ext.drew ?_) | (with_reducible refine Ext.drewN ?_ _) | (with_reducible refine Ext.trans ?_ (Hid.out ‹Hid (Ext _ _)›)))), (by omega), (by omega), Row.newAt (by simp), Row.alloc (Row.newAt rfl), (HO5.out.rd tpc_size).ext (((Ext.refl _).alloc _).alloc _), (HI5.out.rd inc_size).ext (((Ext.refl _).alloc _).alloc _), HFA.out, HFB.out⟩⟩
            · go_wp2_with fail
              go_meet
              case rel => exact ⟨_, _, A5, k5, B5, e5, rfl, rfl, rfl, ⟨(show Ext wr _ by repeat (first | (with_reducible exact Ext.refl _) | (with_reducible refine Ext.alloc ?_ _) | (with_reducible apply Ext.setC; focus (simp <;> omega)) | (with_reducible refine Ext.drew ?_) | (with_reducible refine Ext.drewN ?_ _) | (with_reducible refine Ext.trans ?_ (Hid.out ‹Hid (Ext _ _)›)))), (by omega), (by omega), Row.alloc (row8 (Row.ext H5.out (Row.newAt rfl)) _ _ _ _ _ _ _ _), Row.newAt (by simp), (putF8 (HO5.out.rd tpc_size) (HO5.out.far_of (by simp <;> omega))).ext ((Ext.refl _).alloc _), (putF8 (HI5.out.rd inc_size) (HI5.out.far_of (by simp <;> omega))).ext ((Ext.refl _).alloc _), HFA.out, HFB.out⟩⟩
            · go_wp2_with fail
              go_meet
              case rel => exact ⟨_, _, A5, k5, B5, e5, rfl, rfl, rfl, ⟨(show Ext wr _ by repeat (first | (with_reducible exact Ext.refl _) | (with_reducible refine Ext.alloc ?_ _) | (with_reducible apply Ext.setC; focus (simp <;> omega)) | (with_reducible refine Ext.drew ?_) | (with_reducible refine Ext.drewN ?_ _) | (with_reducible refine Ext.trans ?_ (Hid.out ‹Hid (Ext _ _)›)))), (by omega), (by omega), far5 (row8 (Row.ext H5.out (Row.alloc (Row.newAt rfl))) _ _ _ _ _ _ _ _) (by omega), row5 (far8 (Row.ext H5.out (Row.newAt (by simp))) (by omega)) _ _ _ _ _, putF5 (putF8 (HO5.out.rd tpc_size) (HO5.out.far_of (by simp <;> omega))) (HO5.out.far_of (by simp <;> omega)), putF5 (putF8 (HI5.out.rd inc_size) (HI5.out.far_of (by simp <;> omega))) (HI5.out.far_of (by simp <;> omega)), HFA.out, HFB.out⟩⟩
            · go_wp2_with fail
              go_meet
              case rel => exact ⟨_, _, A5, k5, B5, e5, rfl, rfl, rfl, ⟨(show Ext wr _ by repeat (first | (with_reducible exact Ext.refl _) | (with_reducible refine Ext.alloc ?_ _) | (with_reducible apply Ext.setC; focus (simp <;> omega)) | (with_reducible refine Ext.drew ?_) | (with_reducible refine Ext.drewN ?_ _) | (with_reducible refine Ext.trans ?_ (Hid.out ‹Hid (Ext _ _)›)))), (by omega), (by omega), Row.newAt (by simp), Row.alloc (row5 (Row.ext H5.out (Row.newAt rfl)) _ _ _ _ _), (putF5 (HO5.out.rd tpc_size) (HO5.out.far_of (by simp <;> omega))).ext ((Ext.refl _).alloc _), (putF5 (HI5.out.rd inc_size) (HI5.out.far_of (by simp <;> omega))).ext ((Ext.refl _).alloc _), HFA.out, HFB.out⟩⟩
            · go_wp2_with fail
              go_meet
              case rel => exact ⟨_, _, A5, k5, B5, e5, rfl, rfl, rfl, ⟨(show Ext wr _ by repeat (first | (with_reducible exact Ext.refl _) | (with_reducible refine Ext.alloc ?_ _) | (with_reducible apply Ext.setC; focus (simp <;> omega)) | (with_reducible refine Ext.drew ?_) | (with_reducible refine Ext.drewN ?_ _) | (with_reducible refine Ext.trans ?_ (Hid.out ‹Hid (Ext _ _)›)))), (by omega), (by omega), far5 (row8 (Row.ext H5.out (Row.newAt (by simp))) _ _ _ _ _ _ _ _) (by omega), row5 (far8 (Row.ext H5.out (Row.alloc (Row.newAt rfl))) (by omega)) _ _ _ _ _, putF5 (putF8 (HO5.out.rd tpc_size) (HO5.out.far_of (by simp <;> omega))) (HO5.out.far_of (by simp <;> omega)), putF5 (putF8 (HI5.out.rd inc_size) (HI5.out.far_of (by simp <;> omega))) (HI5.out.far_of (by simp <;> omega)), HFA.out, HFB.out⟩⟩
          case rest =>
            obtain ⟨b10, b11, A1, k1, B1, d1, rfl, rfl, rfl, HW⟩ := hcut
            obtain ⟨wx, rfl⟩ : ∃ wx : World, wx = wc := ⟨_, rfl⟩
            have HEX := Lib.hid HW.out.1
            have hb10 := HW.out.2.1
            have hb11 := HW.out.2.2.1
            have HY0 := Lib.hid HW.out.2.2.2.1
            have HY1 := Lib.hid HW.out.2.2.2.2.1
            have HYS := Lib.hid HW.out.2.2.2.2.2.1
            have HYI := Lib.hid HW.out.2.2.2.2.2.2.1
            have HFA := Lib.hid HW.out.2.2.2.2.2.2.2.1
            have HFB := Lib.hid HW.out.2.2.2.2.2.2.2.2
            clear HW HKeep HT
            by_cases hE : E = 0
            · obtain ⟨hg1, ht1, hte, hYY⟩ := HYO.out hE
              have hR := HYR.out hg1 ht1 hte
              have hX := ckGate_ok.1 hg1
              have hxz := hX.left
              have hxq := hX.seq
              have hx12 := hX.len
              simp only [within, Bool.and_eq_true, decide_eq_true_eq] at hxz hxq
              have e0 : y0 = X.id := congrArg (fun q : Gt × Tp × Int => q.1.id) hYY
              have e1 : y1 = X.zone := congrArg (fun q : Gt × Tp × Int => q.1.zone) hYY
              have e2 : y2 = X.seq + 1 := congrArg (fun q : Gt × Tp × Int => q.1.seq) hYY
              have e3 : yl = X.alone ++ [⟨t0, X.id, X.seq + 1, time, X.zone⟩] := congrArg (fun q : Gt × Tp × Int => q.1.alone) hYY
              have e4 : yv = X.denied.version := congrArg (fun q : Gt × Tp × Int => q.1.denied.version) hYY
              have e5 : yi = X.denied.ids := congrArg (fun q : Gt × Tp × Int => q.1.denied.ids) hYY
              have e6 : y6 = X.left - 1 := congrArg (fun q : Gt × Tp × Int => q.1.left) hYY
              have e7 : y7 = X.untl := congrArg (fun q : Gt × Tp × Int => q.1.untl) hYY
              have f0 : t0 = p0 := (congrArg (fun q : Gt × Tp × Int => q.2.1.ticket) hYY).symm
              have f1 : p1 = X.id := congrArg (fun q : Gt × Tp × Int => q.2.1.gate) hYY
              have f2 : p2 = X.seq + 1 := congrArg (fun q : Gt × Tp × Int => q.2.1.seq) hYY
              have f3 : time = p3 := (congrArg (fun q : Gt × Tp × Int => q.2.1.time) hYY).symm
              have f4 : p4 = X.zone := congrArg (fun q : Gt × Tp × Int => q.2.1.zone) hYY
              clear hYY HYE HYO HYR
              subst e0 e1 e2 e3 e4 e5 e6 e7 f0 f1 f2 f3 f4 hE
              obtain ⟨hr1, hr2, hr3, hr4, hr5, hr6, hr7, hr8⟩ := hR
              obtain ⟨hp1, hp2, hp3, hp4⟩ := HPX.out
              rw [hp4] at hr5
              have hw1 : IntKind.i64.wrap (X.left - 1) = X.left - 1 := IntWalk.i64_in _ (by omega)
              have hw2 : IntKind.i64.wrap (X.seq + 1) = X.seq + 1 := IntWalk.i64_in _ (by omega)
              have hd1 : decide (X.left - 1 < 0) = false := by simpa using (by omega : ¬ X.left - 1 < 0)
              have hd2 : decide (g.untl < time) = false := by rw [← hp3]; simpa using hr3
              have hd3 : (X.zone != g.zone) = false := by simp [hp2]
              have HTW := Lib.hid (twice_no hr6)
              have HCY := Lib.hid (fun (w' : World) (h1 : RdL 5 tpc w' (.slice A1 (X.alone.length + 1) k1) (X.alone ++ [⟨t0, X.id, X.seq + 1, time, X.zone⟩])) (h2 : RdL 1 inc w' (.slice B1 X.denied.ids.length d1) X.denied.ids) => check_right (tapped X ⟨t0, t1, t2, t3, t4, t5⟩ time) hr1 (.slice A1 (X.alone.length + 1) k1) (.slice B1 X.denied.ids.length d1) w' h1 h2)
              have HHN := Lib.hid (fun (w' : World) (h : Ext w w') => has_no g.denied.ids t0 hr5 _ w' (HSg.out.ext h))
              have HST := Lib.hid (same_self (X.alone ++ [⟨t0, X.id, X.seq + 1, time, X.zone⟩]))
              have HNEW := Lib.hid (show ckGate (tapped X ⟨t0, t1, t2, t3, t4, t5⟩ time) = 0 ∧ X.zone = g.zone ∧ X.untl = g.untl ∧ X.denied = g.denied from ⟨hr1, hp2, hp3, hp4⟩)
              have hlen : (X.alone ++ [(⟨t0, X.id, X.seq + 1, time, X.zone⟩ : Tp)]).length = X.alone.length + 1 := by simp
              rw [hlen] at HY0 HYS HFA
              clear hr1 hr2 hr3 hr4 hr5 hr6 hr7 hr8 hp1 hp2 hp3 hp4 hg1 ht1 hte hX hlen HPX
              simp only [tapped] at HCY
              have HT0 := Lib.hid c0
              have HT1 := Lib.hid c1
              clear c0 c1 c2' c3' c4' c5 d0
              (apply Row.use (w := wx) (g := w.heap.size); (focus (repeat (first | (with_reducible exact Hid.out ‹Hid (Row _ _ _)›) | (with_reducible exact Row.newAt rfl) | (with_reducible apply Row.newAt; (simp; done)) | (with_reducible apply Row.set_) | (with_reducible apply Row.far; focus (simp <;> omega)) | (with_reducible apply Row.alloc) | (with_reducible apply Row.drew) | (with_reducible apply Row.drewN) | (with_reducible apply Row.ext (Hid.out ‹Hid (Ext _ _)›))))); intro qx_0 fx_0 lx_0 Rx_0; (try simp only [List.setIfInBounds_toArray, List.set_cons_zero, List.set_cons_succ] at qx_0 Rx_0); apply Row.use (w := wx) (g := w2.heap.size); (focus (repeat (first | (with_reducible exact Hid.out ‹Hid (Row _ _ _)›) | (with_reducible exact Row.newAt rfl) | (with_reducible apply Row.newAt; (simp; done)) | (with_reducible apply Row.set_) | (with_reducible apply Row.far; focus (simp <;> omega)) | (with_reducible apply Row.alloc) | (with_reducible apply Row.drew) | (with_reducible apply Row.drewN) | (with_reducible apply Row.ext (Hid.out ‹Hid (Ext _ _)›))))); intro qx_1 fx_1 lx_1 Rx_1; (try simp only [List.setIfInBounds_toArray, List.set_cons_zero, List.set_cons_succ] at qx_1 Rx_1); apply Row.use (w := wx) (g := b10); (focus (repeat (first | (with_reducible exact Hid.out ‹Hid (Row _ _ _)›) | (with_reducible exact Row.newAt rfl) | (with_reducible apply Row.newAt; (simp; done)) | (with_reducible apply Row.set_) | (with_reducible apply Row.far; focus (simp <;> omega)) | (with_reducible apply Row.alloc) | (with_reducible apply Row.drew) | (with_reducible apply Row.drewN) | (with_reducible apply Row.ext (Hid.out ‹Hid (Ext _ _)›))))); intro qx_2 fx_2 lx_2 Rx_2; (try simp only [List.setIfInBounds_toArray, List.set_cons_zero, List.set_cons_succ] at qx_2 Rx_2); apply Row.use (w := wx) (g := b11); (focus (repeat (first | (with_reducible exact Hid.out ‹Hid (Row _ _ _)›) | (with_reducible exact Row.newAt rfl) | (with_reducible apply Row.newAt; (simp; done)) | (with_reducible apply Row.set_) | (with_reducible apply Row.far; focus (simp <;> omega)) | (with_reducible apply Row.alloc) | (with_reducible apply Row.drew) | (with_reducible apply Row.drewN) | (with_reducible apply Row.ext (Hid.out ‹Hid (Ext _ _)›))))); intro qx_3 fx_3 lx_3 Rx_3; (try simp only [List.setIfInBounds_toArray, List.set_cons_zero, List.set_cons_succ] at qx_3 Rx_3))
              obtain ⟨wo, rfl⟩ : ∃ wo : World, wo = wr := ⟨_, rfl⟩
              go_wp2_with fail
              go_loopg [13] X.alone.length (fun gg s13 wy => ∃ k2 : Nat, k2 ≤ X.alone.length ∧ X.alone.length - k2 ≤ gg ∧ s13 = .int .i64 k2 ∧ Aside (Ext wx wy))
              case atStart => exact ⟨0, by omega, by omega, rfl, Ext.refl _⟩
              case round =>
                obtain ⟨k2, hk2, hg2, rfl, HEY⟩ := hrel
                obtain ⟨wy, rfl⟩ : ∃ wy : World, wy = wr := ⟨_, rfl⟩
                have HEy := Lib.hid HEY.out
                clear HEY
                clear qx_0 fx_0 qx_1 fx_1 qx_2 fx_2 qx_3 fx_3
                have HEw := Lib.hid (And.intro trivial (HEX.out.trans HEy.out))
                (apply Row.use (w := wy) (g := w.heap.size); (focus (repeat (first | (with_reducible exact Hid.out ‹Hid (Row _ _ _)›) | (with_reducible exact Row.newAt rfl) | (with_reducible apply Row.newAt; (simp; done)) | (with_reducible apply Row.set_) | (with_reducible apply Row.far; focus (simp <;> omega)) | (with_reducible apply Row.alloc) | (with_reducible apply Row.drew) | (with_reducible apply Row.drewN) | (with_reducible apply Row.ext (Hid.out ‹Hid (Ext _ _)›))))); intro qy_0 fy_0 ly_0 Ry_0; (try simp only [List.setIfInBounds_toArray, List.set_cons_zero, List.set_cons_succ] at qy_0 Ry_0); apply Row.use (w := wy) (g := w2.heap.size); (focus (repeat (first | (with_reducible exact Hid.out ‹Hid (Row _ _ _)›) | (with_reducible exact Row.newAt rfl) | (with_reducible apply Row.newAt; (simp; done)) | (with_reducible apply Row.set_) | (with_reducible apply Row.far; focus (simp <;> omega)) | (with_reducible apply Row.alloc) | (with_reducible apply Row.drew) | (with_reducible apply Row.drewN) | (with_reducible apply Row.ext (Hid.out ‹Hid (Ext _ _)›))))); intro qy_1 fy_1 ly_1 Ry_1; (try simp only [List.setIfInBounds_toArray, List.set_cons_zero, List.set_cons_succ] at qy_1 Ry_1); apply Row.use (w := wy) (g := b10); (focus (repeat (first | (with_reducible exact Hid.out ‹Hid (Row _ _ _)›) | (with_reducible exact Row.newAt rfl) | (with_reducible apply Row.newAt; (simp; done)) | (with_reducible apply Row.set_) | (with_reducible apply Row.far; focus (simp <;> omega)) | (with_reducible apply Row.alloc) | (with_reducible apply Row.drew) | (with_reducible apply Row.drewN) | (with_reducible apply Row.ext (Hid.out ‹Hid (Ext _ _)›))))); intro qy_2 fy_2 ly_2 Ry_2; (try simp only [List.setIfInBounds_toArray, List.set_cons_zero, List.set_cons_succ] at qy_2 Ry_2); apply Row.use (w := wy) (g := b11); (focus (repeat (first | (with_reducible exact Hid.out ‹Hid (Row _ _ _)›) | (with_reducible exact Row.newAt rfl) | (with_reducible apply Row.newAt; (simp; done)) | (with_reducible apply Row.set_) | (with_reducible apply Row.far; focus (simp <;> omega)) | (with_reducible apply Row.alloc) | (with_reducible apply Row.drew) | (with_reducible apply Row.drewN) | (with_reducible apply Row.ext (Hid.out ‹Hid (Ext _ _)›))))); intro qy_3 fy_3 ly_3 Ry_3; (try simp only [List.setIfInBounds_toArray, List.set_cons_zero, List.set_cons_succ] at qy_3 Ry_3))
                by_cases hlt2 : k2 < X.alone.length
                · have hlt2' : (k2 : Int) < (X.alone.length : Int) := by omega
                  obtain ⟨ab, ao, rfl, hab, a0, -, -, -, -⟩ := (HXS.out.ext HEw.out.2).tp_at rfl hlt2
                  have m0 := (HEw.out.2.cells _ _ htb).trans HT0.out
                  have m1 := (HEw.out.2.cells _ _ htb).trans HT1.out
                  by_cases hkd : t1 = 2
                  · have hkb : (t1 != 2) = false := by simpa using hkd
                    clear hkd
                    go_wp2_with fail
                    go_quiet (fail)
                    go_wp2_with fail
                    go_roundg (X.alone.length - (k2 + 1))
                    case measure => omega
                    case rel => exact ⟨k2 + 1, by omega, by omega, by go_num, HEy.out.drewN _⟩
                  · have hkb : (t1 != 2) = true := by simpa using hkd
                    have hnt := HTW.out hkd k2 hlt2
                    clear hkd
                    generalize X.alone[k2].ticket = at2 at *
                    go_wp2_with fail
                    go_quiet (fail)
                    go_wp2_with fail
                    go_roundg (X.alone.length - (k2 + 1))
                    case measure => omega
                    case rel => exact ⟨k2 + 1, by omega, by omega, by go_num, HEy.out.drewN _⟩
                · have hge2 : ¬ (k2 : Int) < (X.alone.length : Int) := by omega
                  go_wp2_with fail
                  obtain ⟨i0, ji, ji0, ji1, ji2⟩ := info_parts info_tp
                  have HKp := Lib.hid (fun (w' : World) (h : Ext wy w') => (show (∀ o, w'.cell? ⟨w.heap.size, o, none⟩ = (#[.int .i64 g.id, .int .i64 g.zone, .int .i64 g.seq, .slice A g.alone.length c, .int .i64 g.denied.version, .slice A2 g.denied.ids.length c2, .int .i64 g.left, .int .i64 g.untl] : Array Value)[o]?) ∧ (∀ o, w'.cell? ⟨w2.heap.size, o, none⟩ = (#[.int .i64 X.id, .int .i64 X.zone, .int .i64 X.seq, .slice X1 X.alone.length x1, .int .i64 X.denied.version, .slice X2 X.denied.ids.length x2, .int .i64 X.left, .int .i64 X.untl] : Array Value)[o]?) ∧ (∀ o, w'.cell? ⟨b10, o, none⟩ = (#[.int .i64 X.id, .int .i64 X.zone, .int .i64 (X.seq + 1), .slice A1 (X.alone.length + 1) k1, .int .i64 X.denied.version, .slice B1 X.denied.ids.length d1, .int .i64 (X.left - 1), .int .i64 X.untl] : Array Value)[o]?) ∧ (∀ o, w'.cell? ⟨b11, o, none⟩ = (#[.int .i64 t0, .int .i64 X.id, .int .i64 (X.seq + 1), .int .i64 time, .int .i64 X.zone] : Array Value)[o]?) from ⟨(Row.ext h Ry_0.out).2.1, (Row.ext h Ry_1.out).2.1, (Row.ext h Ry_2.out).2.1, (Row.ext h Ry_3.out).2.1⟩))
                  refine T_begin (fun w' => (∀ o, w'.cell? ⟨w.heap.size, o, none⟩ = (#[.int .i64 g.id, .int .i64 g.zone, .int .i64 g.seq, .slice A g.alone.length c, .int .i64 g.denied.version, .slice A2 g.denied.ids.length c2, .int .i64 g.left, .int .i64 g.untl] : Array Value)[o]?) ∧ (∀ o, w'.cell? ⟨w2.heap.size, o, none⟩ = (#[.int .i64 X.id, .int .i64 X.zone, .int .i64 X.seq, .slice X1 X.alone.length x1, .int .i64 X.denied.version, .slice X2 X.denied.ids.length x2, .int .i64 X.left, .int .i64 X.untl] : Array Value)[o]?) ∧ (∀ o, w'.cell? ⟨b10, o, none⟩ = (#[.int .i64 X.id, .int .i64 X.zone, .int .i64 (X.seq + 1), .slice A1 (X.alone.length + 1) k1, .int .i64 X.denied.version, .slice B1 X.denied.ids.length d1, .int .i64 (X.left - 1), .int .i64 X.untl] : Array Value)[o]?) ∧ (∀ o, w'.cell? ⟨b11, o, none⟩ = (#[.int .i64 t0, .int .i64 X.id, .int .i64 (X.seq + 1), .int .i64 time, .int .i64 X.zone] : Array Value)[o]?)) 57 (by kernel_rfl) (HKp.out _ ((Ext.refl _).drew)) (fun hS => ?_)
                  simp only [List.length_cons, List.length_nil]
                  ((refine T_takeG (i := 0) (v := ?_) rfl (by kernel_rfl) (by kernel_rfl) hS ?_ ?_; rotate_left; focus (intro w hSw; (try dsimp only at hSw); go_simp; try (with_reducible rfl))); (try simp only [Act.put, List.setIfInBounds_toArray, List.set_cons_zero, List.set_cons_succ]))
                  clear hS
                  refine T_onlyG (i := 1) rfl (by kernel_rfl) (by kernel_rfl) (fun K hK => ?_)
                  go_simp
                  refine (HCY.out _ (HYS.out.ext (by repeat (first | (with_reducible exact Ext.refl _) | (with_reducible refine Ext.alloc ?_ _) | (with_reducible apply Ext.setC; focus (simp <;> omega)) | (with_reducible refine Ext.drew ?_) | (with_reducible refine Ext.drewN ?_ _) | (with_reducible refine Ext.trans ?_ (Hid.out ‹Hid (Ext _ _)›))))) (HYI.out.ext (by repeat (first | (with_reducible exact Ext.refl _) | (with_reducible refine Ext.alloc ?_ _) | (with_reducible apply Ext.setC; focus (simp <;> omega)) | (with_reducible refine Ext.drew ?_) | (with_reducible refine Ext.drewN ?_ _) | (with_reducible refine Ext.trans ?_ (Hid.out ‹Hid (Ext _ _)›)))))).mono ?_
                  rintro e w6 ⟨rfl, h6⟩
                  have H6 := Lib.hid h6
                  clear h6
                  go_wp2_with fail
                  have hS := HKp.out w6 (by repeat (first | (with_reducible exact Ext.refl _) | (with_reducible refine Ext.alloc ?_ _) | (with_reducible apply Ext.setC; focus (simp <;> omega)) | (with_reducible refine Ext.drew ?_) | (with_reducible refine Ext.drewN ?_ _) | (with_reducible refine Ext.trans ?_ (Hid.out ‹Hid (Ext _ _)›))))
                  refine hK.out _ _ (.inr hS) ?_
                  clear hK
                  (try simp only [Act.put, List.setIfInBounds_toArray, List.set_cons_zero, List.set_cons_succ])
                  ((refine T_takeG (i := 2) (v := ?_) rfl (by kernel_rfl) (by kernel_rfl) hS ?_ ?_; rotate_left; focus (intro w hSw; (try dsimp only at hSw); go_simp; try (with_reducible rfl))); (try simp only [Act.put, List.setIfInBounds_toArray, List.set_cons_zero, List.set_cons_succ]); (refine T_takeG (i := 3) (v := ?_) rfl (by kernel_rfl) (by kernel_rfl) hS ?_ ?_; rotate_left; focus (intro w hSw; (try dsimp only at hSw); go_simp; try (with_reducible rfl))); (try simp only [Act.put, List.setIfInBounds_toArray, List.set_cons_zero, List.set_cons_succ]); (refine T_takeG (i := 4) (v := ?_) rfl (by kernel_rfl) (by kernel_rfl) hS ?_ ?_; rotate_left; focus (intro w hSw; (try dsimp only at hSw); go_simp; try (with_reducible rfl))); (try simp only [Act.put, List.setIfInBounds_toArray, List.set_cons_zero, List.set_cons_succ]); (refine T_takeG (i := 5) (v := ?_) rfl (by kernel_rfl) (by kernel_rfl) hS ?_ ?_; rotate_left; focus (intro w hSw; (try dsimp only at hSw); go_simp; try (with_reducible rfl))); (try simp only [Act.put, List.setIfInBounds_toArray, List.set_cons_zero, List.set_cons_succ]); (refine T_takeG (i := 6) (v := ?_) rfl (by kernel_rfl) (by kernel_rfl) hS ?_ ?_; rotate_left; focus (intro w hSw; (try dsimp only at hSw); go_simp; try (with_reducible rfl))); (try simp only [Act.put, List.setIfInBounds_toArray, List.set_cons_zero, List.set_cons_succ]); (refine T_takeG (i := 7) (v := ?_) rfl (by kernel_rfl) (by kernel_rfl) hS ?_ ?_; rotate_left; focus (intro w hSw; (try dsimp only at hSw); go_simp; try (with_reducible rfl))); (try simp only [Act.put, List.setIfInBounds_toArray, List.set_cons_zero, List.set_cons_succ]); (refine T_takeG (i := 8) (v := ?_) rfl (by kernel_rfl) (by kernel_rfl) hS ?_ ?_; rotate_left; focus (intro w hSw; (try dsimp only at hSw); go_simp; try (with_reducible rfl))); (try simp only [Act.put, List.setIfInBounds_toArray, List.set_cons_zero, List.set_cons_succ]); (refine T_takeG (i := 9) (v := ?_) rfl (by kernel_rfl) (by kernel_rfl) hS ?_ ?_; rotate_left; focus (intro w hSw; (try dsimp only at hSw); go_simp; try (with_reducible rfl))); (try simp only [Act.put, List.setIfInBounds_toArray, List.set_cons_zero, List.set_cons_succ]); (refine T_takeG (i := 10) (v := ?_) rfl (by kernel_rfl) (by kernel_rfl) hS ?_ ?_; rotate_left; focus (intro w hSw; (try dsimp only at hSw); go_simp; try (with_reducible rfl))); (try simp only [Act.put, List.setIfInBounds_toArray, List.set_cons_zero, List.set_cons_succ]); (refine T_takeG (i := 11) (v := ?_) rfl (by kernel_rfl) (by kernel_rfl) hS ?_ ?_; rotate_left; focus (intro w hSw; (try dsimp only at hSw); go_simp; try (with_reducible rfl))); (try simp only [Act.put, List.setIfInBounds_toArray, List.set_cons_zero, List.set_cons_succ]); (refine T_takeG (i := 12) (v := ?_) rfl (by kernel_rfl) (by kernel_rfl) hS ?_ ?_; rotate_left; focus (intro w hSw; (try dsimp only at hSw); go_simp; try (with_reducible rfl))); (try simp only [Act.put, List.setIfInBounds_toArray, List.set_cons_zero, List.set_cons_succ]); (refine T_takeG (i := 13) (v := ?_) rfl (by kernel_rfl) (by kernel_rfl) hS ?_ ?_; rotate_left; focus (intro w hSw; (try dsimp only at hSw); go_simp; try (with_reducible rfl))); (try simp only [Act.put, List.setIfInBounds_toArray, List.set_cons_zero, List.set_cons_succ]); (refine T_takeG (i := 14) (v := ?_) rfl (by kernel_rfl) (by kernel_rfl) hS ?_ ?_; rotate_left; focus (intro w hSw; (try dsimp only at hSw); go_simp; try (with_reducible rfl))); (try simp only [Act.put, List.setIfInBounds_toArray, List.set_cons_zero, List.set_cons_succ]); (refine T_takeG (i := 15) (v := ?_) rfl (by kernel_rfl) (by kernel_rfl) hS ?_ ?_; rotate_left; focus (intro w hSw; (try dsimp only at hSw); go_simp; try (with_reducible rfl))); (try simp only [Act.put, List.setIfInBounds_toArray, List.set_cons_zero, List.set_cons_succ]); (refine T_takeG (i := 16) (v := ?_) rfl (by kernel_rfl) (by kernel_rfl) hS ?_ ?_; rotate_left; focus (intro w hSw; (try dsimp only at hSw); go_simp; try (with_reducible rfl))); (try simp only [Act.put, List.setIfInBounds_toArray, List.set_cons_zero, List.set_cons_succ]); (refine T_takeG (i := 17) (v := ?_) rfl (by kernel_rfl) (by kernel_rfl) hS ?_ ?_; rotate_left; focus (intro w hSw; (try dsimp only at hSw); go_simp; try (with_reducible rfl))); (try simp only [Act.put, List.setIfInBounds_toArray, List.set_cons_zero, List.set_cons_succ]); (refine T_takeG (i := 18) (v := ?_) rfl (by kernel_rfl) (by kernel_rfl) hS ?_ ?_; rotate_left; focus (intro w hSw; (try dsimp only at hSw); go_simp; try (with_reducible rfl))); (try simp only [Act.put, List.setIfInBounds_toArray, List.set_cons_zero, List.set_cons_succ]); (refine T_takeG (i := 19) (v := ?_) rfl (by kernel_rfl) (by kernel_rfl) hS ?_ ?_; rotate_left; focus (intro w hSw; (try dsimp only at hSw); go_simp; try (with_reducible rfl))); (try simp only [Act.put, List.setIfInBounds_toArray, List.set_cons_zero, List.set_cons_succ]); (refine T_takeG (i := 20) (v := ?_) rfl (by kernel_rfl) (by kernel_rfl) hS ?_ ?_; rotate_left; focus (intro w hSw; (try dsimp only at hSw); go_simp; try (with_reducible rfl))); (try simp only [Act.put, List.setIfInBounds_toArray, List.set_cons_zero, List.set_cons_succ]); (refine T_takeG (i := 21) (v := ?_) rfl (by kernel_rfl) (by kernel_rfl) hS ?_ ?_; rotate_left; focus (intro w hSw; (try dsimp only at hSw); go_simp; try (with_reducible rfl))); (try simp only [Act.put, List.setIfInBounds_toArray, List.set_cons_zero, List.set_cons_succ]); (refine T_takeG (i := 22) (v := ?_) rfl (by kernel_rfl) (by kernel_rfl) hS ?_ ?_; rotate_left; focus (intro w hSw; (try dsimp only at hSw); go_simp; try (with_reducible rfl))); (try simp only [Act.put, List.setIfInBounds_toArray, List.set_cons_zero, List.set_cons_succ]); (refine T_takeG (i := 23) (v := ?_) rfl (by kernel_rfl) (by kernel_rfl) hS ?_ ?_; rotate_left; focus (intro w hSw; (try dsimp only at hSw); go_simp; try (with_reducible rfl))); (try simp only [Act.put, List.setIfInBounds_toArray, List.set_cons_zero, List.set_cons_succ]); (refine T_takeG (i := 24) (v := ?_) rfl (by kernel_rfl) (by kernel_rfl) hS ?_ ?_; rotate_left; focus (intro w hSw; (try dsimp only at hSw); go_simp; try (with_reducible rfl))); (try simp only [Act.put, List.setIfInBounds_toArray, List.set_cons_zero, List.set_cons_succ]); (refine T_takeG (i := 25) (v := ?_) rfl (by kernel_rfl) (by kernel_rfl) hS ?_ ?_; rotate_left; focus (intro w hSw; (try dsimp only at hSw); go_simp; try (with_reducible rfl))); (try simp only [Act.put, List.setIfInBounds_toArray, List.set_cons_zero, List.set_cons_succ]); (refine T_takeG (i := 26) (v := ?_) rfl (by kernel_rfl) (by kernel_rfl) hS ?_ ?_; rotate_left; focus (intro w hSw; (try dsimp only at hSw); go_simp; try (with_reducible rfl))); (try simp only [Act.put, List.setIfInBounds_toArray, List.set_cons_zero, List.set_cons_succ]); (refine T_takeG (i := 27) (v := ?_) rfl (by kernel_rfl) (by kernel_rfl) hS ?_ ?_; rotate_left; focus (intro w hSw; (try dsimp only at hSw); go_simp; try (with_reducible rfl))); (try simp only [Act.put, List.setIfInBounds_toArray, List.set_cons_zero, List.set_cons_succ]); (refine T_takeG (i := 28) (v := ?_) rfl (by kernel_rfl) (by kernel_rfl) hS ?_ ?_; rotate_left; focus (intro w hSw; (try dsimp only at hSw); go_simp; try (with_reducible rfl))); (try simp only [Act.put, List.setIfInBounds_toArray, List.set_cons_zero, List.set_cons_succ]); (refine T_takeG (i := 29) (v := ?_) rfl (by kernel_rfl) (by kernel_rfl) hS ?_ ?_; rotate_left; focus (intro w hSw; (try dsimp only at hSw); go_simp; try (with_reducible rfl))); (try simp only [Act.put, List.setIfInBounds_toArray, List.set_cons_zero, List.set_cons_succ]); (refine T_takeG (i := 30) (v := ?_) rfl (by kernel_rfl) (by kernel_rfl) hS ?_ ?_; rotate_left; focus (intro w hSw; (try dsimp only at hSw); go_simp; try (with_reducible rfl))); (try simp only [Act.put, List.setIfInBounds_toArray, List.set_cons_zero, List.set_cons_succ]); (refine T_takeG (i := 31) (v := ?_) rfl (by kernel_rfl) (by kernel_rfl) hS ?_ ?_; rotate_left; focus (intro w hSw; (try dsimp only at hSw); go_simp; try (with_reducible rfl))); (try simp only [Act.put, List.setIfInBounds_toArray, List.set_cons_zero, List.set_cons_succ]); (refine T_takeG (i := 32) (v := ?_) rfl (by kernel_rfl) (by kernel_rfl) hS ?_ ?_; rotate_left; focus (intro w hSw; (try dsimp only at hSw); go_simp; try (with_reducible rfl))); (try simp only [Act.put, List.setIfInBounds_toArray, List.set_cons_zero, List.set_cons_succ]); (refine T_takeG (i := 33) (v := ?_) rfl (by kernel_rfl) (by kernel_rfl) hS ?_ ?_; rotate_left; focus (intro w hSw; (try dsimp only at hSw); go_simp; try (with_reducible rfl))); (try simp only [Act.put, List.setIfInBounds_toArray, List.set_cons_zero, List.set_cons_succ]); (refine T_takeG (i := 34) (v := ?_) rfl (by kernel_rfl) (by kernel_rfl) hS ?_ ?_; rotate_left; focus (intro w hSw; (try dsimp only at hSw); go_simp; try (with_reducible rfl))); (try simp only [Act.put, List.setIfInBounds_toArray, List.set_cons_zero, List.set_cons_succ]); (refine T_takeG (i := 35) (v := ?_) rfl (by kernel_rfl) (by kernel_rfl) hS ?_ ?_; rotate_left; focus (intro w hSw; (try dsimp only at hSw); go_simp; try (with_reducible rfl))); (try simp only [Act.put, List.setIfInBounds_toArray, List.set_cons_zero, List.set_cons_succ]); (refine T_takeG (i := 36) (v := ?_) rfl (by kernel_rfl) (by kernel_rfl) hS ?_ ?_; rotate_left; focus (intro w hSw; (try dsimp only at hSw); go_simp; try (with_reducible rfl))); (try simp only [Act.put, List.setIfInBounds_toArray, List.set_cons_zero, List.set_cons_succ]); (refine T_takeG (i := 37) (v := ?_) rfl (by kernel_rfl) (by kernel_rfl) hS ?_ ?_; rotate_left; focus (intro w hSw; (try dsimp only at hSw); go_simp; try (with_reducible rfl))); (try simp only [Act.put, List.setIfInBounds_toArray, List.set_cons_zero, List.set_cons_succ]); (refine T_takeG (i := 38) (v := ?_) rfl (by kernel_rfl) (by kernel_rfl) hS ?_ ?_; rotate_left; focus (intro w hSw; (try dsimp only at hSw); go_simp; try (with_reducible rfl))); (try simp only [Act.put, List.setIfInBounds_toArray, List.set_cons_zero, List.set_cons_succ]); (refine T_takeG (i := 39) (v := ?_) rfl (by kernel_rfl) (by kernel_rfl) hS ?_ ?_; rotate_left; focus (intro w hSw; (try dsimp only at hSw); go_simp; try (with_reducible rfl))); (try simp only [Act.put, List.setIfInBounds_toArray, List.set_cons_zero, List.set_cons_succ]); (refine T_takeG (i := 40) (v := ?_) rfl (by kernel_rfl) (by kernel_rfl) hS ?_ ?_; rotate_left; focus (intro w hSw; (try dsimp only at hSw); go_simp; try (with_reducible rfl))); (try simp only [Act.put, List.setIfInBounds_toArray, List.set_cons_zero, List.set_cons_succ]); (refine T_takeG (i := 41) (v := ?_) rfl (by kernel_rfl) (by kernel_rfl) hS ?_ ?_; rotate_left; focus (intro w hSw; (try dsimp only at hSw); go_simp; try (with_reducible rfl))); (try simp only [Act.put, List.setIfInBounds_toArray, List.set_cons_zero, List.set_cons_succ]); (refine T_takeG (i := 42) (v := ?_) rfl (by kernel_rfl) (by kernel_rfl) hS ?_ ?_; rotate_left; focus (intro w hSw; (try dsimp only at hSw); go_simp; try (with_reducible rfl))); (try simp only [Act.put, List.setIfInBounds_toArray, List.set_cons_zero, List.set_cons_succ]))
                  clear hS
                  refine T_onlyG (i := 43) rfl (by kernel_rfl) (by kernel_rfl) (fun K hK => ?_)
                  go_simp
                  refine (HHN.out _ (by repeat (first | (with_reducible exact Ext.refl _) | (with_reducible refine Ext.alloc ?_ _) | (with_reducible apply Ext.setC; focus (simp <;> omega)) | (with_reducible refine Ext.drew ?_) | (with_reducible refine Ext.drewN ?_ _) | (with_reducible refine Ext.trans ?_ (Hid.out ‹Hid (Ext _ _)›))))).mono ?_
                  rintro e w' ⟨rfl, rfl⟩
                  go_wp2_with fail
                  have hS := HKp.out w6 (by repeat (first | (with_reducible exact Ext.refl _) | (with_reducible refine Ext.alloc ?_ _) | (with_reducible apply Ext.setC; focus (simp <;> omega)) | (with_reducible refine Ext.drew ?_) | (with_reducible refine Ext.drewN ?_ _) | (with_reducible refine Ext.trans ?_ (Hid.out ‹Hid (Ext _ _)›))))
                  refine hK.out _ _ (.inr hS) ?_
                  clear hK
                  (try simp only [Act.put, List.setIfInBounds_toArray, List.set_cons_zero, List.set_cons_succ])
                  ((refine T_takeG (i := 44) (v := ?_) rfl (by kernel_rfl) (by kernel_rfl) hS ?_ ?_; rotate_left; focus (intro w hSw; (try dsimp only at hSw); go_simp; try (with_reducible rfl))); (try simp only [Act.put, List.setIfInBounds_toArray, List.set_cons_zero, List.set_cons_succ]); (refine T_takeG (i := 45) (v := ?_) rfl (by kernel_rfl) (by kernel_rfl) hS ?_ ?_; rotate_left; focus (intro w hSw; (try dsimp only at hSw); go_simp; try (with_reducible rfl))); (try simp only [Act.put, List.setIfInBounds_toArray, List.set_cons_zero, List.set_cons_succ]); (refine T_takeG (i := 46) (v := ?_) rfl (by kernel_rfl) (by kernel_rfl) hS ?_ ?_; rotate_left; focus (intro w hSw; (try dsimp only at hSw); go_simp; try (with_reducible rfl))); (try simp only [Act.put, List.setIfInBounds_toArray, List.set_cons_zero, List.set_cons_succ]); (refine T_takeG (i := 47) (v := ?_) rfl (by kernel_rfl) (by kernel_rfl) hS ?_ ?_; rotate_left; focus (intro w hSw; (try dsimp only at hSw); go_simp; try (with_reducible rfl))); (try simp only [Act.put, List.setIfInBounds_toArray, List.set_cons_zero, List.set_cons_succ]); (refine T_takeG (i := 49) (v := ?_) rfl (by kernel_rfl) (by kernel_rfl) hS ?_ ?_; rotate_left; focus (intro w hSw; (try dsimp only at hSw); go_simp; try (with_reducible rfl))); (try simp only [Act.put, List.setIfInBounds_toArray, List.set_cons_zero, List.set_cons_succ]); (refine T_takeG (i := 50) (v := ?_) rfl (by kernel_rfl) (by kernel_rfl) hS ?_ ?_; rotate_left; focus (intro w hSw; (try dsimp only at hSw); go_simp; try (with_reducible rfl))); (try simp only [Act.put, List.setIfInBounds_toArray, List.set_cons_zero, List.set_cons_succ]); (refine T_takeG (i := 52) (v := ?_) rfl (by kernel_rfl) (by kernel_rfl) hS ?_ ?_; rotate_left; focus (intro w hSw; (try dsimp only at hSw); go_simp; try (with_reducible rfl))); (try simp only [Act.put, List.setIfInBounds_toArray, List.set_cons_zero, List.set_cons_succ]))
                  clear hS
                  refine T_copy1G (enc := tpc) (k := 5) (i0 := 48) (i3 := 51) (i5 := 53) (i6 := 54) (d0 := 128) (d3 := 131) (d5 := 133) (d6 := 134) (x2 := 130) (px := 132) (q := 45) (dq := 125) (bq := false) 64 56 i0 (.agg #[.int .i64 0, .int .i64 0, .int .i64 0, .int .i64 0, .int .i64 0]) 40 Try.underlying56 ji ji0 ji1 ji2 rfl (by decide) tpc_size rfl rfl rfl rfl rfl rfl rfl rfl rfl rfl ?hqa (by decide) ⟨t0, X.id, X.seq + 1, time, X.zone⟩ ?s0 ?s5 rfl rfl rfl rfl (by decide) ⟨?z1, ?z2, ?z3⟩ (by decide) (by kernel_rfl) (by kernel_rfl) (by kernel_rfl) (by kernel_rfl) (by kernel_rfl) (by kernel_rfl) (fun w' he => HKp.out w' ((show Ext wy w6 by repeat (first | (with_reducible exact Ext.refl _) | (with_reducible refine Ext.alloc ?_ _) | (with_reducible apply Ext.setC; focus (simp <;> omega)) | (with_reducible refine Ext.drew ?_) | (with_reducible refine Ext.drewN ?_ _) | (with_reducible refine Ext.trans ?_ (Hid.out ‹Hid (Ext _ _)›)))).trans he)) (.slice X1 X.alone.length x1) X.alone rfl (HXS.out.ext (by repeat (first | (with_reducible exact Ext.refl _) | (with_reducible refine Ext.alloc ?_ _) | (with_reducible apply Ext.setC; focus (simp <;> omega)) | (with_reducible refine Ext.drew ?_) | (with_reducible refine Ext.drewN ?_ _) | (with_reducible refine Ext.trans ?_ (Hid.out ‹Hid (Ext _ _)›))))) rfl (taps_one _) (taps_one _) (by unfold maxLen; omega) (by omega) ?fin
                  case hqa => first | rfl | simp
                  case s0 => exact fun a w K h => bs0_tpG a w K h
                  case s5 => exact fun a w K hp h => bs1_tpG ⟨t0, X.id, X.seq + 1, time, X.zone⟩ a w K hp h
                  case z1 => simp
                  case z2 => simp
                  case z3 => simp
                  case fin =>
                    intro v0 v3 v5 v6 W7 ho7 he7
                    have HR7 := Lib.hid (ho7.rd tpc_size)
                    have H7 := Lib.hid he7
                    clear ho7 he7
                    (try simp only [Act.put, List.setIfInBounds_toArray, List.set_cons_zero, List.set_cons_succ])
                    refine T_onlyG (i := 55) rfl (by kernel_rfl) (by kernel_rfl) (fun K hK => ?_)
                    go_simp
                    refine (HST.out _ _ _ (HYS.out.ext (by repeat (first | (with_reducible exact Ext.refl _) | (with_reducible refine Ext.alloc ?_ _) | (with_reducible apply Ext.setC; focus (simp <;> omega)) | (with_reducible refine Ext.drew ?_) | (with_reducible refine Ext.drewN ?_ _) | (with_reducible refine Ext.trans ?_ (Hid.out ‹Hid (Ext _ _)›))))) HR7.out).mono ?_
                    rintro e w8 ⟨rfl, h8⟩
                    have H8 := Lib.hid h8
                    clear h8
                    go_wp2_with fail
                    have hS := HKp.out w8 (by repeat (first | (with_reducible exact Ext.refl _) | (with_reducible refine Ext.alloc ?_ _) | (with_reducible apply Ext.setC; focus (simp <;> omega)) | (with_reducible refine Ext.drew ?_) | (with_reducible refine Ext.drewN ?_ _) | (with_reducible refine Ext.trans ?_ (Hid.out ‹Hid (Ext _ _)›))))
                    refine hK.out _ _ (.inr hS) ?_
                    clear hK
                    (try simp only [Act.put, List.setIfInBounds_toArray, List.set_cons_zero, List.set_cons_succ])
                    ((refine T_takeG (i := 56) (v := ?_) rfl (by kernel_rfl) (by kernel_rfl) hS ?_ ?_; rotate_left; focus (intro w hSw; (try dsimp only at hSw); go_simp; try (with_reducible rfl))); (try simp only [Act.put, List.setIfInBounds_toArray, List.set_cons_zero, List.set_cons_succ]))
                    clear hS
                    refine T_onlyG (i := 57) rfl (by kernel_rfl) (by kernel_rfl) (fun K hK => ?_)
                    go_simp
                    refine hK.out _ _ (.inl (by kernel_rfl)) ?_
                    clear hK
                    refine T_done (by kernel_rfl) ?_ _
                    (apply Row.use (w := w8) (g := w.heap.size); (focus (repeat (first | (with_reducible exact Hid.out ‹Hid (Row _ _ _)›) | (with_reducible exact Row.newAt rfl) | (with_reducible apply Row.newAt; (simp; done)) | (with_reducible apply Row.set_) | (with_reducible apply Row.far; focus (simp <;> omega)) | (with_reducible apply Row.alloc) | (with_reducible apply Row.drew) | (with_reducible apply Row.drewN) | (with_reducible apply Row.ext (Hid.out ‹Hid (Ext _ _)›))))); intro qz_0 fz_0 lz_0 Rz_0; (try simp only [List.setIfInBounds_toArray, List.set_cons_zero, List.set_cons_succ] at qz_0 Rz_0); apply Row.use (w := w8) (g := w2.heap.size); (focus (repeat (first | (with_reducible exact Hid.out ‹Hid (Row _ _ _)›) | (with_reducible exact Row.newAt rfl) | (with_reducible apply Row.newAt; (simp; done)) | (with_reducible apply Row.set_) | (with_reducible apply Row.far; focus (simp <;> omega)) | (with_reducible apply Row.alloc) | (with_reducible apply Row.drew) | (with_reducible apply Row.drewN) | (with_reducible apply Row.ext (Hid.out ‹Hid (Ext _ _)›))))); intro qz_1 fz_1 lz_1 Rz_1; (try simp only [List.setIfInBounds_toArray, List.set_cons_zero, List.set_cons_succ] at qz_1 Rz_1); apply Row.use (w := w8) (g := b10); (focus (repeat (first | (with_reducible exact Hid.out ‹Hid (Row _ _ _)›) | (with_reducible exact Row.newAt rfl) | (with_reducible apply Row.newAt; (simp; done)) | (with_reducible apply Row.set_) | (with_reducible apply Row.far; focus (simp <;> omega)) | (with_reducible apply Row.alloc) | (with_reducible apply Row.drew) | (with_reducible apply Row.drewN) | (with_reducible apply Row.ext (Hid.out ‹Hid (Ext _ _)›))))); intro qz_2 fz_2 lz_2 Rz_2; (try simp only [List.setIfInBounds_toArray, List.set_cons_zero, List.set_cons_succ] at qz_2 Rz_2); apply Row.use (w := w8) (g := b11); (focus (repeat (first | (with_reducible exact Hid.out ‹Hid (Row _ _ _)›) | (with_reducible exact Row.newAt rfl) | (with_reducible apply Row.newAt; (simp; done)) | (with_reducible apply Row.set_) | (with_reducible apply Row.far; focus (simp <;> omega)) | (with_reducible apply Row.alloc) | (with_reducible apply Row.drew) | (with_reducible apply Row.drewN) | (with_reducible apply Row.ext (Hid.out ‹Hid (Ext _ _)›))))); intro qz_3 fz_3 lz_3 Rz_3; (try simp only [List.setIfInBounds_toArray, List.set_cons_zero, List.set_cons_succ] at qz_3 Rz_3))
                    go_wp2_with fail
                    go_roundg (l.length - (k + 1))
                    case measure => omega
                    case rel => exact ⟨k + 1, tapped X ⟨t0, t1, t2, t3, t4, t5⟩ time, .slice A1 (X.alone.length + 1) k1, .slice B1 X.denied.ids.length d1, by omega, by omega, rfl, by go_num, HNEW.out, (show Ext w _ by repeat (first | (with_reducible exact Ext.refl _) | (with_reducible refine Ext.alloc ?_ _) | (with_reducible apply Ext.setC; focus (simp <;> omega)) | (with_reducible refine Ext.drew ?_) | (with_reducible refine Ext.drewN ?_ _) | (with_reducible refine Ext.trans ?_ (Hid.out ‹Hid (Ext _ _)›)))), far8 Rz_0.out (by omega), row8 Rz_1.out _ _ _ _ _ _ _ _, putF8 (HYS.out.ext (by repeat (first | (with_reducible exact Ext.refl _) | (with_reducible refine Ext.alloc ?_ _) | (with_reducible apply Ext.setC; focus (simp <;> omega)) | (with_reducible refine Ext.drew ?_) | (with_reducible refine Ext.drewN ?_ _) | (with_reducible refine Ext.trans ?_ (Hid.out ‹Hid (Ext _ _)›))))) HFA.out, putF8 (HYI.out.ext (by repeat (first | (with_reducible exact Ext.refl _) | (with_reducible refine Ext.alloc ?_ _) | (with_reducible apply Ext.setC; focus (simp <;> omega)) | (with_reducible refine Ext.drew ?_) | (with_reducible refine Ext.drewN ?_ _) | (with_reducible refine Ext.trans ?_ (Hid.out ‹Hid (Ext _ _)›))))) HFB.out⟩
            · have hEb : (E != 0) = true := by simpa using hE
              clear hE
              (apply Row.use (w := wx) (g := w.heap.size); (focus (repeat (first | (with_reducible exact Hid.out ‹Hid (Row _ _ _)›) | (with_reducible exact Row.newAt rfl) | (with_reducible apply Row.newAt; (simp; done)) | (with_reducible apply Row.set_) | (with_reducible apply Row.far; focus (simp <;> omega)) | (with_reducible apply Row.alloc) | (with_reducible apply Row.drew) | (with_reducible apply Row.drewN) | (with_reducible apply Row.ext (Hid.out ‹Hid (Ext _ _)›))))); intro qx_0 fx_0 lx_0 Rx_0; (try simp only [List.setIfInBounds_toArray, List.set_cons_zero, List.set_cons_succ] at qx_0 Rx_0); apply Row.use (w := wx) (g := w2.heap.size); (focus (repeat (first | (with_reducible exact Hid.out ‹Hid (Row _ _ _)›) | (with_reducible exact Row.newAt rfl) | (with_reducible apply Row.newAt; (simp; done)) | (with_reducible apply Row.set_) | (with_reducible apply Row.far; focus (simp <;> omega)) | (with_reducible apply Row.alloc) | (with_reducible apply Row.drew) | (with_reducible apply Row.drewN) | (with_reducible apply Row.ext (Hid.out ‹Hid (Ext _ _)›))))); intro qx_1 fx_1 lx_1 Rx_1; (try simp only [List.setIfInBounds_toArray, List.set_cons_zero, List.set_cons_succ] at qx_1 Rx_1))
              go_wp2_with fail
              go_roundg (l.length - (k + 1))
              case measure => omega
              case rel => exact ⟨k + 1, X, _, _, by omega, by omega, rfl, by go_num, HPX.out, (show Ext w _ by repeat (first | (with_reducible exact Ext.refl _) | (with_reducible refine Ext.alloc ?_ _) | (with_reducible apply Ext.setC; focus (simp <;> omega)) | (with_reducible refine Ext.drew ?_) | (with_reducible refine Ext.drewN ?_ _) | (with_reducible refine Ext.trans ?_ (Hid.out ‹Hid (Ext _ _)›)))), Rx_0.out, Rx_1.out, HXS.out.ext HEX.out, HXI.out.ext HEX.out⟩
        · have hge : ¬ (k : Int) < (times.length : Int) := by omega
          go_wp2_with fail
          go_ret
          exact ⟨rfl, HE.out⟩
      · have hge : ¬ (k : Int) < (l.length : Int) := by omega
        go_wp2_with fail
        go_ret
        exact ⟨rfl, HE.out⟩
  · have hgb : (cg != 0) = true := by simpa using h0
    clear h0
    go_enter Try.func10, Try.ntmps10
    go_wp2_with fail
    (refine (HB.out _).mono ?_; rintro e w1 ⟨rfl, h1⟩; have H1 := Lib.hid h1; have hz1 := h1.size; clear h1; (try simp only [World.size_alloc, size_set, World.heap_drewN, size_drew] at hz1); apply Row.use (w := w1) (g := w.heap.size); (focus (repeat (first | (with_reducible exact Hid.out ‹Hid (Row _ _ _)›) | (with_reducible exact Row.newAt rfl) | (with_reducible apply Row.newAt; (simp; done)) | (with_reducible apply Row.set_) | (with_reducible apply Row.far; focus (simp <;> omega)) | (with_reducible apply Row.alloc) | (with_reducible apply Row.drew) | (with_reducible apply Row.drewN) | (with_reducible apply Row.ext (Hid.out ‹Hid (Ext _ _)›))))); intro q1_0 f1_0 l1_0 R1_0; (try simp only [List.setIfInBounds_toArray, List.set_cons_zero, List.set_cons_succ] at q1_0 R1_0))
    go_wp2_with fail
    (refine (HCk.out _ (by repeat (first | (with_reducible exact Ext.refl _) | (with_reducible refine Ext.alloc ?_ _) | (with_reducible apply Ext.setC; focus (simp <;> omega)) | (with_reducible refine Ext.drew ?_) | (with_reducible refine Ext.drewN ?_ _) | (with_reducible refine Ext.trans ?_ (Hid.out ‹Hid (Ext _ _)›))))).mono ?_; rintro e w2 ⟨rfl, h2⟩; have H2 := Lib.hid h2; have hz2 := h2.size; clear h2; (try simp only [World.size_alloc, size_set, World.heap_drewN, size_drew] at hz2); apply Row.use (w := w2) (g := w.heap.size); (focus (repeat (first | (with_reducible exact Hid.out ‹Hid (Row _ _ _)›) | (with_reducible exact Row.newAt rfl) | (with_reducible apply Row.newAt; (simp; done)) | (with_reducible apply Row.set_) | (with_reducible apply Row.far; focus (simp <;> omega)) | (with_reducible apply Row.alloc) | (with_reducible apply Row.drew) | (with_reducible apply Row.drewN) | (with_reducible apply Row.ext (Hid.out ‹Hid (Ext _ _)›))))); intro q2_0 f2_0 l2_0 R2_0; (try simp only [List.setIfInBounds_toArray, List.set_cons_zero, List.set_cons_succ] at q2_0 R2_0))
    go_wp2_with fail
    go_ret
    refine ⟨rfl, ?_⟩
    repeat (first | (with_reducible exact Ext.refl _) | (with_reducible refine Ext.alloc ?_ _) | (with_reducible apply Ext.setC; focus (simp <;> omega)) | (with_reducible refine Ext.drew ?_) | (with_reducible refine Ext.drewN ?_ _) | (with_reducible refine Ext.trans ?_ (Hid.out ‹Hid (Ext _ _)›)))
end Go.Proofs.Ythollackhkiofaa
