/- RestLedgers: for every input the law returns true, and each argument reads afterwards as it read before. No condition. -/
import Derived.SizedLaws
import Derived.Test.YtbboonepfmkgnaaGreatRows
import Derived.Test.YtbboonepfmkgnaaGreatMr
import Derived.Test.YtbboonepfmkgnaaGreatMl
import Derived.Test.YtbboonepfmkgnaaGreatMk
import Derived.Test.YtbboonepfmkgnaaGreatMh
import Derived.Test.YtbboonepfmkgnaaGreatMf
import Derived.Test.YtbboonepfmkgnaaGreatMc
import Derived.Test.YtbboonepfmkgnaaGreatMo
/- RestLedgers: what region 3 makes. -/
namespace Go.Proofs.YtbboonepfmkgnaaGreat
set_option linter.unusedSimpArgs false
set_option linter.unusedVariables false
set_option maxRecDepth 100000
open Go Go.RowKit Lb

/-- a ledger's copy -/
def CpL (lo : Nat) (w : World) (l : Ld) (v : Value) : Prop := ∃ t0 t1 t2, v = .agg #[t0, t1, t2] ∧ OwnL 36 6 tkc lo w t0 l.tickets ∧ OwnL 28 5 tpc lo w t1 l.taps ∧ OwnL 3 1 inc lo w t2 l.verdicts
def CpG (lo : Nat) (w : World) (g : Gt) (v : Value) : Prop := ∃ ta ti, v = .agg (gta g ta ti) ∧ OwnL 28 5 tpc lo w ta g.alone ∧ OwnL 3 1 inc lo w ti g.denied.ids
def CpD (lo : Nat) (w : World) (d : Dn) (v : Value) : Prop := ∃ t, v = .agg #[.int .i64 d.version, t] ∧ OwnL 3 1 inc lo w t d.ids
def CpB (lo : Nat) (w : World) (e : TypeId) (cs : Array Value) (v : Value) : Prop := ∃ p, v = .pointer (some ⟨p, 0, none⟩) ∧ lo ≤ p ∧ Bx w p e cs
theorem CpL.ext {lo : Nat} {w w' : World} {l : Ld} {v : Value} (h : CpL lo w l v) (he : Ext w w') : CpL lo w' l v := by
  obtain ⟨a, b, c, h, h1, h2, h3⟩ := h
  exact ⟨a, b, c, h, h1.ext he, h2.ext he, h3.ext he⟩
theorem CpG.ext {lo : Nat} {w w' : World} {l : Gt} {v : Value} (h : CpG lo w l v) (he : Ext w w') : CpG lo w' l v := by
  obtain ⟨a, b, h, h1, h2⟩ := h
  exact ⟨a, b, h, h1.ext he, h2.ext he⟩
theorem CpD.ext {lo : Nat} {w w' : World} {l : Dn} {v : Value} (h : CpD lo w l v) (he : Ext w w') : CpD lo w' l v := by
  obtain ⟨a, h, h1⟩ := h
  exact ⟨a, h, h1.ext he⟩
theorem CpB.ext {lo : Nat} {w w' : World} {e : TypeId} {cs : Array Value} {v : Value} (h : CpB lo w e cs v) (he : Ext w w') : CpB lo w' e cs v := by
  obtain ⟨a, h, h1, h2⟩ := h
  exact ⟨a, h, h1, h2.ext he⟩
def zLd : Array Value := #[.slice none 0 0, .slice none 0 0, .slice none 0 0]
def zGt : Array Value := #[.int .i64 0, .int .i64 0, .int .i64 0, .slice none 0 0, .int .i64 0, .slice none 0 0, .int .i64 0, .int .i64 0]
def zDn : Array Value := #[.int .i64 0, .slice none 0 0]
def JR (l : Ld) (g : Gt) (d : Dn) (Y : World) (a0 : Act) (bs : List Bool) (a : Act) (w : World) : Prop :=
  ∃ v1 v3 v5 b1 b2 b3, a = (((((a0.put (some 52) v1).put (some 54) v3).put (some 56) v5).put (some 11) b1).put (some 12) b2).put (some 13) b3 ∧ Ext Y w ∧
    (bs[0]? = some true → CpL Y.heap.size w l v1) ∧ (bs[1]? = some true → CpG Y.heap.size w g v3) ∧ (bs[2]? = some true → CpD Y.heap.size w d v5) ∧
    (bs[3]? = some true → CpB Y.heap.size w 26 zLd b1) ∧ (bs[4]? = some true → CpB Y.heap.size w 34 zGt b2) ∧ (bs[5]? = some true → CpB Y.heap.size w 30 zDn b3)

set_option maxHeartbeats 16000000 in
theorem law_RestLedgers (l : Ld) (P : Tp) (g : Gt) (d : Dn) (t : Tk) (s0 s1 s2 sa si sd : Value) (w : World) (hr0 : RdL 6 tkc w s0 l.tickets) (hr1 : RdL 5 tpc w s1 l.taps) (hr2 : RdL 1 inc w s2 l.verdicts) (hra : RdL 5 tpc w sa g.alone) (hri : RdL 1 inc w si g.denied.ids) (hrd : RdL 1 inc w sd d.ids)
    (hz : fitsL l) (hza : g.alone.length * 40 ≤ 140737488355328) (hzi : g.denied.ids.length * 8 ≤ 140737488355328) (hzd : d.ids.length * 8 ≤ 140737488355328) :
    Calls Tryz.prog 3 #[.agg #[s0, s1, s2], .agg (tpc P), .agg (gta g sa si), .agg #[.int .i64 d.version, sd], .agg (tkc t)] w fun e w' => e = .returned (.bool true) ∧ Ext w w' := by
  have K1 := Lib.hid (fun (w' : World) (h : Ext w w') => law_copiedLedger l s0 s1 s2 w' (hr0.ext h) (hr1.ext h) (hr2.ext h) hz)
  have K2 := Lib.hid (fun (w' : World) (h : Ext w w') => law_copiedGate g sa si w' (hra.ext h) (hri.ext h) hza hzi)
  have K3 := Lib.hid (fun (w' : World) (h : Ext w w') => law_copiedDenied d.version d.ids sd w' (hrd.ext h) hzd)
  have K4 := Lib.hid (fun (w' : World) (h : Ext w w') => ref_CheckLedger l.tickets l.taps l.verdicts s0 s1 s2 w' (hr0.ext h) (hr1.ext h) (hr2.ext h))
  have K5 := Lib.hid (fun (w' : World) (h : Ext w w') (hck : ckLedger l = 0) => ref_EnterOf l s0 s1 s2 P w' hck (hr0.ext h) (hr1.ext h) (hr2.ext h) (fun q => q < w.heap.size) (fun h0 q hq => by obtain ⟨A, c, hv, -, -, h3⟩ := hr0; obtain ⟨b, o, hA, hb, -⟩ := h3 h0; rw [hv, hA] at hq; simp [Value.ownBlock] at hq; omega))
  have R0 := Lib.hid (And.intro hr0 (And.intro hr1 (And.intro hr2 (And.intro hra (And.intro hri hrd)))))
  obtain ⟨A0, c0, rfl, -, -⟩ := hr0.form
  obtain ⟨A1, c1, rfl, -, -⟩ := hr1.form
  obtain ⟨A2, c2, rfl, -, -⟩ := hr2.form
  obtain ⟨A3, c3, rfl, -, -⟩ := hra.form
  obtain ⟨A4, c4, rfl, -, -⟩ := hri.form
  obtain ⟨A5, c5, rfl, -, -⟩ := hrd.form
  have HZ := Lib.hid hz
  clear hr0 hr1 hr2 hra hri hrd hz hza hzi hzd
  unfold gta tpc tkc
  go_enter Tryz.func3, Tryz.ntmps3
  go_wp2_with fail
  (refine (law_ledgerBegun _).mono ?_; rintro e w1 ⟨rfl, h1⟩; have H1 := Lib.hid h1; have hz1 := h1.size; clear h1; (try simp only [World.size_alloc, size_set, World.heap_drewN, size_drew] at hz1); apply Row.use (w := w1) (g := w.heap.size); (focus (repeat (first | (with_reducible exact Hid.out ‹Hid (Row _ _ _)›) | (with_reducible exact Row.newAt rfl) | (with_reducible apply Row.newAt; (simp; done)) | (with_reducible apply Row.set_) | (with_reducible apply Row.far; focus (simp <;> omega)) | (with_reducible apply Row.alloc) | (with_reducible apply Row.drew) | (with_reducible apply Row.drewN) | (with_reducible apply Row.ext (Hid.out ‹Hid (Ext _ _)›))))); intro q1_0 f1_0 l1_0 R1_0; (try simp only [List.setIfInBounds_toArray, List.set_cons_zero, List.set_cons_succ] at q1_0 R1_0); apply Row.use (w := w1) (g := w.heap.size + 1); (focus (repeat (first | (with_reducible exact Hid.out ‹Hid (Row _ _ _)›) | (with_reducible exact Row.newAt rfl) | (with_reducible apply Row.newAt; (simp; done)) | (with_reducible apply Row.set_) | (with_reducible apply Row.far; focus (simp <;> omega)) | (with_reducible apply Row.alloc) | (with_reducible apply Row.drew) | (with_reducible apply Row.drewN) | (with_reducible apply Row.ext (Hid.out ‹Hid (Ext _ _)›))))); intro q1_1 f1_1 l1_1 R1_1; (try simp only [List.setIfInBounds_toArray, List.set_cons_zero, List.set_cons_succ] at q1_1 R1_1); apply Row.use (w := w1) (g := w.heap.size + 1 + 1); (focus (repeat (first | (with_reducible exact Hid.out ‹Hid (Row _ _ _)›) | (with_reducible exact Row.newAt rfl) | (with_reducible apply Row.newAt; (simp; done)) | (with_reducible apply Row.set_) | (with_reducible apply Row.far; focus (simp <;> omega)) | (with_reducible apply Row.alloc) | (with_reducible apply Row.drew) | (with_reducible apply Row.drewN) | (with_reducible apply Row.ext (Hid.out ‹Hid (Ext _ _)›))))); intro q1_2 f1_2 l1_2 R1_2; (try simp only [List.setIfInBounds_toArray, List.set_cons_zero, List.set_cons_succ] at q1_2 R1_2); apply Row.use (w := w1) (g := w.heap.size + 1 + 1 + 1); (focus (repeat (first | (with_reducible exact Hid.out ‹Hid (Row _ _ _)›) | (with_reducible exact Row.newAt rfl) | (with_reducible apply Row.newAt; (simp; done)) | (with_reducible apply Row.set_) | (with_reducible apply Row.far; focus (simp <;> omega)) | (with_reducible apply Row.alloc) | (with_reducible apply Row.drew) | (with_reducible apply Row.drewN) | (with_reducible apply Row.ext (Hid.out ‹Hid (Ext _ _)›))))); intro q1_3 f1_3 l1_3 R1_3; (try simp only [List.setIfInBounds_toArray, List.set_cons_zero, List.set_cons_succ] at q1_3 R1_3); apply Row.use (w := w1) (g := w.heap.size + 1 + 1 + 1 + 1); (focus (repeat (first | (with_reducible exact Hid.out ‹Hid (Row _ _ _)›) | (with_reducible exact Row.newAt rfl) | (with_reducible apply Row.newAt; (simp; done)) | (with_reducible apply Row.set_) | (with_reducible apply Row.far; focus (simp <;> omega)) | (with_reducible apply Row.alloc) | (with_reducible apply Row.drew) | (with_reducible apply Row.drewN) | (with_reducible apply Row.ext (Hid.out ‹Hid (Ext _ _)›))))); intro q1_4 f1_4 l1_4 R1_4; (try simp only [List.setIfInBounds_toArray, List.set_cons_zero, List.set_cons_succ] at q1_4 R1_4))
  go_wp2_with fail
  (refine (law_gateBegun _).mono ?_; rintro e w2 ⟨rfl, h2⟩; have H2 := Lib.hid h2; have hz2 := h2.size; clear h2; (try simp only [World.size_alloc, size_set, World.heap_drewN, size_drew] at hz2); apply Row.use (w := w2) (g := w.heap.size); (focus (repeat (first | (with_reducible exact Hid.out ‹Hid (Row _ _ _)›) | (with_reducible exact Row.newAt rfl) | (with_reducible apply Row.newAt; (simp; done)) | (with_reducible apply Row.set_) | (with_reducible apply Row.far; focus (simp <;> omega)) | (with_reducible apply Row.alloc) | (with_reducible apply Row.drew) | (with_reducible apply Row.drewN) | (with_reducible apply Row.ext (Hid.out ‹Hid (Ext _ _)›))))); intro q2_0 f2_0 l2_0 R2_0; (try simp only [List.setIfInBounds_toArray, List.set_cons_zero, List.set_cons_succ] at q2_0 R2_0); apply Row.use (w := w2) (g := w.heap.size + 1); (focus (repeat (first | (with_reducible exact Hid.out ‹Hid (Row _ _ _)›) | (with_reducible exact Row.newAt rfl) | (with_reducible apply Row.newAt; (simp; done)) | (with_reducible apply Row.set_) | (with_reducible apply Row.far; focus (simp <;> omega)) | (with_reducible apply Row.alloc) | (with_reducible apply Row.drew) | (with_reducible apply Row.drewN) | (with_reducible apply Row.ext (Hid.out ‹Hid (Ext _ _)›))))); intro q2_1 f2_1 l2_1 R2_1; (try simp only [List.setIfInBounds_toArray, List.set_cons_zero, List.set_cons_succ] at q2_1 R2_1); apply Row.use (w := w2) (g := w.heap.size + 1 + 1); (focus (repeat (first | (with_reducible exact Hid.out ‹Hid (Row _ _ _)›) | (with_reducible exact Row.newAt rfl) | (with_reducible apply Row.newAt; (simp; done)) | (with_reducible apply Row.set_) | (with_reducible apply Row.far; focus (simp <;> omega)) | (with_reducible apply Row.alloc) | (with_reducible apply Row.drew) | (with_reducible apply Row.drewN) | (with_reducible apply Row.ext (Hid.out ‹Hid (Ext _ _)›))))); intro q2_2 f2_2 l2_2 R2_2; (try simp only [List.setIfInBounds_toArray, List.set_cons_zero, List.set_cons_succ] at q2_2 R2_2); apply Row.use (w := w2) (g := w.heap.size + 1 + 1 + 1); (focus (repeat (first | (with_reducible exact Hid.out ‹Hid (Row _ _ _)›) | (with_reducible exact Row.newAt rfl) | (with_reducible apply Row.newAt; (simp; done)) | (with_reducible apply Row.set_) | (with_reducible apply Row.far; focus (simp <;> omega)) | (with_reducible apply Row.alloc) | (with_reducible apply Row.drew) | (with_reducible apply Row.drewN) | (with_reducible apply Row.ext (Hid.out ‹Hid (Ext _ _)›))))); intro q2_3 f2_3 l2_3 R2_3; (try simp only [List.setIfInBounds_toArray, List.set_cons_zero, List.set_cons_succ] at q2_3 R2_3); apply Row.use (w := w2) (g := w.heap.size + 1 + 1 + 1 + 1); (focus (repeat (first | (with_reducible exact Hid.out ‹Hid (Row _ _ _)›) | (with_reducible exact Row.newAt rfl) | (with_reducible apply Row.newAt; (simp; done)) | (with_reducible apply Row.set_) | (with_reducible apply Row.far; focus (simp <;> omega)) | (with_reducible apply Row.alloc) | (with_reducible apply Row.drew) | (with_reducible apply Row.drewN) | (with_reducible apply Row.ext (Hid.out ‹Hid (Ext _ _)›))))); intro q2_4 f2_4 l2_4 R2_4; (try simp only [List.setIfInBounds_toArray, List.set_cons_zero, List.set_cons_succ] at q2_4 R2_4))
  go_wp2_with fail
  (refine (law_deniedBegun _).mono ?_; rintro e w3 ⟨rfl, h3⟩; have H3 := Lib.hid h3; have hz3 := h3.size; clear h3; (try simp only [World.size_alloc, size_set, World.heap_drewN, size_drew] at hz3); apply Row.use (w := w3) (g := w.heap.size); (focus (repeat (first | (with_reducible exact Hid.out ‹Hid (Row _ _ _)›) | (with_reducible exact Row.newAt rfl) | (with_reducible apply Row.newAt; (simp; done)) | (with_reducible apply Row.set_) | (with_reducible apply Row.far; focus (simp <;> omega)) | (with_reducible apply Row.alloc) | (with_reducible apply Row.drew) | (with_reducible apply Row.drewN) | (with_reducible apply Row.ext (Hid.out ‹Hid (Ext _ _)›))))); intro q3_0 f3_0 l3_0 R3_0; (try simp only [List.setIfInBounds_toArray, List.set_cons_zero, List.set_cons_succ] at q3_0 R3_0); apply Row.use (w := w3) (g := w.heap.size + 1); (focus (repeat (first | (with_reducible exact Hid.out ‹Hid (Row _ _ _)›) | (with_reducible exact Row.newAt rfl) | (with_reducible apply Row.newAt; (simp; done)) | (with_reducible apply Row.set_) | (with_reducible apply Row.far; focus (simp <;> omega)) | (with_reducible apply Row.alloc) | (with_reducible apply Row.drew) | (with_reducible apply Row.drewN) | (with_reducible apply Row.ext (Hid.out ‹Hid (Ext _ _)›))))); intro q3_1 f3_1 l3_1 R3_1; (try simp only [List.setIfInBounds_toArray, List.set_cons_zero, List.set_cons_succ] at q3_1 R3_1); apply Row.use (w := w3) (g := w.heap.size + 1 + 1); (focus (repeat (first | (with_reducible exact Hid.out ‹Hid (Row _ _ _)›) | (with_reducible exact Row.newAt rfl) | (with_reducible apply Row.newAt; (simp; done)) | (with_reducible apply Row.set_) | (with_reducible apply Row.far; focus (simp <;> omega)) | (with_reducible apply Row.alloc) | (with_reducible apply Row.drew) | (with_reducible apply Row.drewN) | (with_reducible apply Row.ext (Hid.out ‹Hid (Ext _ _)›))))); intro q3_2 f3_2 l3_2 R3_2; (try simp only [List.setIfInBounds_toArray, List.set_cons_zero, List.set_cons_succ] at q3_2 R3_2); apply Row.use (w := w3) (g := w.heap.size + 1 + 1 + 1); (focus (repeat (first | (with_reducible exact Hid.out ‹Hid (Row _ _ _)›) | (with_reducible exact Row.newAt rfl) | (with_reducible apply Row.newAt; (simp; done)) | (with_reducible apply Row.set_) | (with_reducible apply Row.far; focus (simp <;> omega)) | (with_reducible apply Row.alloc) | (with_reducible apply Row.drew) | (with_reducible apply Row.drewN) | (with_reducible apply Row.ext (Hid.out ‹Hid (Ext _ _)›))))); intro q3_3 f3_3 l3_3 R3_3; (try simp only [List.setIfInBounds_toArray, List.set_cons_zero, List.set_cons_succ] at q3_3 R3_3); apply Row.use (w := w3) (g := w.heap.size + 1 + 1 + 1 + 1); (focus (repeat (first | (with_reducible exact Hid.out ‹Hid (Row _ _ _)›) | (with_reducible exact Row.newAt rfl) | (with_reducible apply Row.newAt; (simp; done)) | (with_reducible apply Row.set_) | (with_reducible apply Row.far; focus (simp <;> omega)) | (with_reducible apply Row.alloc) | (with_reducible apply Row.drew) | (with_reducible apply Row.drewN) | (with_reducible apply Row.ext (Hid.out ‹Hid (Ext _ _)›))))); intro q3_4 f3_4 l3_4 R3_4; (try simp only [List.setIfInBounds_toArray, List.set_cons_zero, List.set_cons_succ] at q3_4 R3_4))
  go_wp2_with fail
  (refine (law_mergeBegun _).mono ?_; rintro e w4 ⟨rfl, h4⟩; have H4 := Lib.hid h4; have hz4 := h4.size; clear h4; (try simp only [World.size_alloc, size_set, World.heap_drewN, size_drew] at hz4); apply Row.use (w := w4) (g := w.heap.size); (focus (repeat (first | (with_reducible exact Hid.out ‹Hid (Row _ _ _)›) | (with_reducible exact Row.newAt rfl) | (with_reducible apply Row.newAt; (simp; done)) | (with_reducible apply Row.set_) | (with_reducible apply Row.far; focus (simp <;> omega)) | (with_reducible apply Row.alloc) | (with_reducible apply Row.drew) | (with_reducible apply Row.drewN) | (with_reducible apply Row.ext (Hid.out ‹Hid (Ext _ _)›))))); intro q4_0 f4_0 l4_0 R4_0; (try simp only [List.setIfInBounds_toArray, List.set_cons_zero, List.set_cons_succ] at q4_0 R4_0); apply Row.use (w := w4) (g := w.heap.size + 1); (focus (repeat (first | (with_reducible exact Hid.out ‹Hid (Row _ _ _)›) | (with_reducible exact Row.newAt rfl) | (with_reducible apply Row.newAt; (simp; done)) | (with_reducible apply Row.set_) | (with_reducible apply Row.far; focus (simp <;> omega)) | (with_reducible apply Row.alloc) | (with_reducible apply Row.drew) | (with_reducible apply Row.drewN) | (with_reducible apply Row.ext (Hid.out ‹Hid (Ext _ _)›))))); intro q4_1 f4_1 l4_1 R4_1; (try simp only [List.setIfInBounds_toArray, List.set_cons_zero, List.set_cons_succ] at q4_1 R4_1); apply Row.use (w := w4) (g := w.heap.size + 1 + 1); (focus (repeat (first | (with_reducible exact Hid.out ‹Hid (Row _ _ _)›) | (with_reducible exact Row.newAt rfl) | (with_reducible apply Row.newAt; (simp; done)) | (with_reducible apply Row.set_) | (with_reducible apply Row.far; focus (simp <;> omega)) | (with_reducible apply Row.alloc) | (with_reducible apply Row.drew) | (with_reducible apply Row.drewN) | (with_reducible apply Row.ext (Hid.out ‹Hid (Ext _ _)›))))); intro q4_2 f4_2 l4_2 R4_2; (try simp only [List.setIfInBounds_toArray, List.set_cons_zero, List.set_cons_succ] at q4_2 R4_2); apply Row.use (w := w4) (g := w.heap.size + 1 + 1 + 1); (focus (repeat (first | (with_reducible exact Hid.out ‹Hid (Row _ _ _)›) | (with_reducible exact Row.newAt rfl) | (with_reducible apply Row.newAt; (simp; done)) | (with_reducible apply Row.set_) | (with_reducible apply Row.far; focus (simp <;> omega)) | (with_reducible apply Row.alloc) | (with_reducible apply Row.drew) | (with_reducible apply Row.drewN) | (with_reducible apply Row.ext (Hid.out ‹Hid (Ext _ _)›))))); intro q4_3 f4_3 l4_3 R4_3; (try simp only [List.setIfInBounds_toArray, List.set_cons_zero, List.set_cons_succ] at q4_3 R4_3); apply Row.use (w := w4) (g := w.heap.size + 1 + 1 + 1 + 1); (focus (repeat (first | (with_reducible exact Hid.out ‹Hid (Row _ _ _)›) | (with_reducible exact Row.newAt rfl) | (with_reducible apply Row.newAt; (simp; done)) | (with_reducible apply Row.set_) | (with_reducible apply Row.far; focus (simp <;> omega)) | (with_reducible apply Row.alloc) | (with_reducible apply Row.drew) | (with_reducible apply Row.drewN) | (with_reducible apply Row.ext (Hid.out ‹Hid (Ext _ _)›))))); intro q4_4 f4_4 l4_4 R4_4; (try simp only [List.setIfInBounds_toArray, List.set_cons_zero, List.set_cons_succ] at q4_4 R4_4))
  go_upto_region 3 with fail
  (apply wp_gen5 (w0 := w4) (g0 := w.heap.size) (g1 := w.heap.size + 1) (g2 := w.heap.size + 1 + 1) (g3 := w.heap.size + 1 + 1 + 1) (g4 := w.heap.size + 1 + 1 + 1 + 1); (focus (repeat (first | (with_reducible exact Hid.out ‹Hid (Row _ _ _)›) | (with_reducible exact Row.newAt rfl) | (with_reducible apply Row.newAt; (simp; done)) | (with_reducible apply Row.set_) | (with_reducible apply Row.far; focus (simp <;> omega)) | (with_reducible apply Row.alloc) | (with_reducible apply Row.drew) | (with_reducible apply Row.drewN) | (with_reducible apply Row.ext (Hid.out ‹Hid (Ext _ _)›))))); (focus (repeat (first | (with_reducible exact Hid.out ‹Hid (Row _ _ _)›) | (with_reducible exact Row.newAt rfl) | (with_reducible apply Row.newAt; (simp; done)) | (with_reducible apply Row.set_) | (with_reducible apply Row.far; focus (simp <;> omega)) | (with_reducible apply Row.alloc) | (with_reducible apply Row.drew) | (with_reducible apply Row.drewN) | (with_reducible apply Row.ext (Hid.out ‹Hid (Ext _ _)›))))); (focus (repeat (first | (with_reducible exact Hid.out ‹Hid (Row _ _ _)›) | (with_reducible exact Row.newAt rfl) | (with_reducible apply Row.newAt; (simp; done)) | (with_reducible apply Row.set_) | (with_reducible apply Row.far; focus (simp <;> omega)) | (with_reducible apply Row.alloc) | (with_reducible apply Row.drew) | (with_reducible apply Row.drewN) | (with_reducible apply Row.ext (Hid.out ‹Hid (Ext _ _)›))))); (focus (repeat (first | (with_reducible exact Hid.out ‹Hid (Row _ _ _)›) | (with_reducible exact Row.newAt rfl) | (with_reducible apply Row.newAt; (simp; done)) | (with_reducible apply Row.set_) | (with_reducible apply Row.far; focus (simp <;> omega)) | (with_reducible apply Row.alloc) | (with_reducible apply Row.drew) | (with_reducible apply Row.drewN) | (with_reducible apply Row.ext (Hid.out ‹Hid (Ext _ _)›))))); (focus (repeat (first | (with_reducible exact Hid.out ‹Hid (Row _ _ _)›) | (with_reducible exact Row.newAt rfl) | (with_reducible apply Row.newAt; (simp; done)) | (with_reducible apply Row.set_) | (with_reducible apply Row.far; focus (simp <;> omega)) | (with_reducible apply Row.alloc) | (with_reducible apply Row.drew) | (with_reducible apply Row.drewN) | (with_reducible apply Row.ext (Hid.out ‹Hid (Ext _ _)›))))); (focus (repeat (first | (with_reducible exact Ext.refl _) | (with_reducible refine Ext.alloc ?_ _) | (with_reducible apply Ext.setC; focus (simp <;> omega)) | (with_reducible refine Ext.drew ?_) | (with_reducible refine Ext.drewN ?_ _) | (with_reducible refine Ext.trans ?_ (Hid.out ‹Hid (Ext _ _)›))))); intro Y HY hzY Ra_0 Ra_1 Ra_2 Ra_3 Ra_4; (try simp only [List.setIfInBounds_toArray, List.set_cons_zero, List.set_cons_succ, World.size_alloc, size_set, World.heap_drewN, size_drew] at hzY Ra_0 Ra_1 Ra_2 Ra_3 Ra_4); have la_0 := Ra_0.out.size; have la_1 := Ra_1.out.size; have la_2 := Ra_2.out.size; have la_3 := Ra_3.out.size; have la_4 := Ra_4.out.size)
  have hwy : Ext w Y := by repeat (first | (with_reducible exact Ext.refl _) | (with_reducible refine Ext.alloc ?_ _) | (with_reducible apply Ext.setC; focus (simp <;> omega)) | (with_reducible refine Ext.drew ?_) | (with_reducible refine Ext.drewN ?_ _) | (with_reducible refine Ext.trans ?_ (Hid.out ‹Hid (Ext _ _)›)))
  have HK := Lib.hid (fun (w' : World) (h : Ext Y w') => And.intro (Row.ext h Ra_0.out).2.1 (And.intro (Row.ext h Ra_2.out).2.1 ((Row.ext h Ra_3.out).2.1)))
  (refine T_begin (fun w' => Ext Y w') 9 (by kernel_rfl) ((Ext.refl _).drew) (fun hS => ?_); simp only [List.length_cons, List.length_nil])
  ((refine T_takeR (i := 0) (v := ?_) rfl (by kernel_rfl) (by first | exact wanted_none rfl | kernel_rfl) hS ?_ ?_; rotate_left; focus (intro w hSw; have hk := HK.out w hSw; clear hSw; go_simp; try (with_reducible rfl))); (try simp only [Act.put, List.setIfInBounds_toArray, List.set_cons_zero, List.set_cons_succ]); (refine T_takeR (i := 2) (v := ?_) rfl (by kernel_rfl) (by first | exact wanted_none rfl | kernel_rfl) hS ?_ ?_; rotate_left; focus (intro w hSw; have hk := HK.out w hSw; clear hSw; go_simp; try (with_reducible rfl))); (try simp only [Act.put, List.setIfInBounds_toArray, List.set_cons_zero, List.set_cons_succ]); (refine T_takeR (i := 4) (v := ?_) rfl (by kernel_rfl) (by first | exact wanted_none rfl | kernel_rfl) hS ?_ ?_; rotate_left; focus (intro w hSw; have hk := HK.out w hSw; clear hSw; go_simp; try (with_reducible rfl))); (try simp only [Act.put, List.setIfInBounds_toArray, List.set_cons_zero, List.set_cons_succ]))
  refine T_phaseA 6 [1, 3, 5, 6, 7, 8] (fun _ _ => true) rfl (by kernel_rfl) (by kernel_rfl) (JR l g d Y) ?hq0 ?hS ?hj ?hf
  case hq0 => exact ⟨undef, undef, undef, undef, undef, undef, rfl, hS, fun h => by simp at h, fun h => by simp at h, fun h => by simp at h, fun h => by simp at h, fun h => by simp at h, fun h => by simp at h⟩
  case hS => rintro bs a w' - ⟨_, _, _, _, _, _, -, h, -⟩; exact h
  case hj =>
    intro p i bs a W o hnum hbl hbp hdep hJ ho K hK
    obtain ⟨v1, v3, v5, b1, b2, b3, rfl, hE, h1, h2, h3, h4, h5, h6⟩ := hJ
    have hEs := hE.size
    rcases p with _ | _ | _ | _ | _ | _ | p
    · have e1 := Option.some.inj hnum
      subst e1
      have e2 := Option.some.inj ho
      subst e2
      simp only [Act.put, List.setIfInBounds_toArray, List.set_cons_zero, List.set_cons_succ]
      go_simp
      refine (K1.out _ (hwy.trans hE)).mono ?_
      rintro e w5 ⟨t0, t1, t2, rfl, hx, o0, o1, o2⟩
      have HX := Lib.hid (hK.out _ _ ⟨.agg #[t0, t1, t2], v3, v5, b1, b2, b3, rfl, hE.trans hx, fun _ => ⟨t0, t1, t2, rfl, o0.lower hEs, o1.lower hEs, o2.lower hEs⟩, fun h => (h2 (by rwa [List.getElem?_set_ne (by decide)] at h)).ext hx, fun h => (h3 (by rwa [List.getElem?_set_ne (by decide)] at h)).ext hx, fun h => (h4 (by rwa [List.getElem?_set_ne (by decide)] at h)).ext hx, fun h => (h5 (by rwa [List.getElem?_set_ne (by decide)] at h)).ext hx, fun h => (h6 (by rwa [List.getElem?_set_ne (by decide)] at h)).ext hx⟩)
      clear hx o0 o1 o2 h1 h2 h3 h4 h5 h6 hK
      go_wp2_with fail
      exact HX.out
    · have e1 := Option.some.inj hnum
      subst e1
      have e2 := Option.some.inj ho
      subst e2
      simp only [Act.put, List.setIfInBounds_toArray, List.set_cons_zero, List.set_cons_succ]
      go_simp
      refine (K2.out _ (hwy.trans hE)).mono ?_
      rintro e w5 ⟨ta, ti, rfl, hx, o0, o1⟩
      have HX := Lib.hid (hK.out _ _ ⟨v1, .agg (gta g ta ti), v5, b1, b2, b3, rfl, hE.trans hx, fun h => (h1 (by rwa [List.getElem?_set_ne (by decide)] at h)).ext hx, fun _ => ⟨ta, ti, rfl, o0.lower hEs, o1.lower hEs⟩, fun h => (h3 (by rwa [List.getElem?_set_ne (by decide)] at h)).ext hx, fun h => (h4 (by rwa [List.getElem?_set_ne (by decide)] at h)).ext hx, fun h => (h5 (by rwa [List.getElem?_set_ne (by decide)] at h)).ext hx, fun h => (h6 (by rwa [List.getElem?_set_ne (by decide)] at h)).ext hx⟩)
      clear hx o0 o1 h1 h2 h3 h4 h5 h6 hK
      go_wp2_with fail
      exact HX.out
    · have e1 := Option.some.inj hnum
      subst e1
      have e2 := Option.some.inj ho
      subst e2
      simp only [Act.put, List.setIfInBounds_toArray, List.set_cons_zero, List.set_cons_succ]
      go_simp
      refine (K3.out _ (hwy.trans hE)).mono ?_
      rintro e w5 ⟨td, rfl, hx, o0⟩
      have HX := Lib.hid (hK.out _ _ ⟨v1, v3, .agg #[.int .i64 d.version, td], b1, b2, b3, rfl, hE.trans hx, fun h => (h1 (by rwa [List.getElem?_set_ne (by decide)] at h)).ext hx, fun h => (h2 (by rwa [List.getElem?_set_ne (by decide)] at h)).ext hx, fun _ => ⟨td, rfl, o0.lower hEs⟩, fun h => (h4 (by rwa [List.getElem?_set_ne (by decide)] at h)).ext hx, fun h => (h5 (by rwa [List.getElem?_set_ne (by decide)] at h)).ext hx, fun h => (h6 (by rwa [List.getElem?_set_ne (by decide)] at h)).ext hx⟩)
      clear hx o0 h1 h2 h3 h4 h5 h6 hK
      go_wp2_with fail
      exact HX.out
    · have e1 := Option.some.inj hnum
      subst e1
      have e2 := Option.some.inj ho
      subst e2
      simp only [Act.put, List.setIfInBounds_toArray, List.set_cons_zero, List.set_cons_succ]
      go_simp
      exact hK.out _ _ ⟨v1, v3, v5, .pointer (some ⟨W.heap.size, 0, none⟩), b2, b3, rfl, hE.alloc _, fun h => (h1 (by rwa [List.getElem?_set_ne (by decide)] at h)).ext ((Ext.refl W).alloc _), fun h => (h2 (by rwa [List.getElem?_set_ne (by decide)] at h)).ext ((Ext.refl W).alloc _), fun h => (h3 (by rwa [List.getElem?_set_ne (by decide)] at h)).ext ((Ext.refl W).alloc _), fun _ => ⟨W.heap.size, rfl, hEs, Bx.new⟩, fun h => (h5 (by rwa [List.getElem?_set_ne (by decide)] at h)).ext ((Ext.refl W).alloc _), fun h => (h6 (by rwa [List.getElem?_set_ne (by decide)] at h)).ext ((Ext.refl W).alloc _)⟩
    · have e1 := Option.some.inj hnum
      subst e1
      have e2 := Option.some.inj ho
      subst e2
      simp only [Act.put, List.setIfInBounds_toArray, List.set_cons_zero, List.set_cons_succ]
      go_simp
      exact hK.out _ _ ⟨v1, v3, v5, b1, .pointer (some ⟨W.heap.size, 0, none⟩), b3, rfl, hE.alloc _, fun h => (h1 (by rwa [List.getElem?_set_ne (by decide)] at h)).ext ((Ext.refl W).alloc _), fun h => (h2 (by rwa [List.getElem?_set_ne (by decide)] at h)).ext ((Ext.refl W).alloc _), fun h => (h3 (by rwa [List.getElem?_set_ne (by decide)] at h)).ext ((Ext.refl W).alloc _), fun h => (h4 (by rwa [List.getElem?_set_ne (by decide)] at h)).ext ((Ext.refl W).alloc _), fun _ => ⟨W.heap.size, rfl, hEs, Bx.new⟩, fun h => (h6 (by rwa [List.getElem?_set_ne (by decide)] at h)).ext ((Ext.refl W).alloc _)⟩
    · have e1 := Option.some.inj hnum
      subst e1
      have e2 := Option.some.inj ho
      subst e2
      simp only [Act.put, List.setIfInBounds_toArray, List.set_cons_zero, List.set_cons_succ]
      go_simp
      exact hK.out _ _ ⟨v1, v3, v5, b1, b2, .pointer (some ⟨W.heap.size, 0, none⟩), rfl, hE.alloc _, fun h => (h1 (by rwa [List.getElem?_set_ne (by decide)] at h)).ext ((Ext.refl W).alloc _), fun h => (h2 (by rwa [List.getElem?_set_ne (by decide)] at h)).ext ((Ext.refl W).alloc _), fun h => (h3 (by rwa [List.getElem?_set_ne (by decide)] at h)).ext ((Ext.refl W).alloc _), fun h => (h4 (by rwa [List.getElem?_set_ne (by decide)] at h)).ext ((Ext.refl W).alloc _), fun h => (h5 (by rwa [List.getElem?_set_ne (by decide)] at h)).ext ((Ext.refl W).alloc _), fun _ => ⟨W.heap.size, rfl, hEs, Bx.new⟩⟩
    · cases hnum
  case hf =>
    rintro a Z ⟨v1, v3, v5, b1, b2, b3, rfl, hE, h1, h2, h3, h4, h5, h6⟩
    obtain ⟨t0, t1, t2, rfl, o0, o1, o2⟩ := h1 rfl
    obtain ⟨ta, ti, rfl, o3, o4⟩ := h2 rfl
    obtain ⟨td, rfl, o5⟩ := h3 rfl
    obtain ⟨p1, rfl, hp1, x1⟩ := h4 rfl
    obtain ⟨p2, rfl, hp2, x2⟩ := h5 rfl
    obtain ⟨p3, rfl, hp3, x3⟩ := h6 rfl
    clear h1 h2 h3 h4 h5 h6
    simp only [Act.put, List.setIfInBounds_toArray, List.set_cons_zero, List.set_cons_succ]
    have nn12 : p1 ≠ p2 := by rintro rfl; unfold Bx at x1 x2; rw [x1] at x2; simp at x2
    have nn13 : p1 ≠ p3 := by rintro rfl; unfold Bx at x1 x3; rw [x1] at x3; simp at x3
    have nn23 : p2 ≠ p3 := by rintro rfl; unfold Bx at x2 x3; rw [x2] at x3; simp at x3
    obtain ⟨B0, d0, rfl⟩ := o0.form
    obtain ⟨B1, d1, rfl⟩ := o1.form
    obtain ⟨B2, d2, rfl⟩ := o2.form
    obtain ⟨B3, d3, rfl⟩ := o3.form
    obtain ⟨B4, d4, rfl⟩ := o4.form
    obtain ⟨B5, d5, rfl⟩ := o5.form
    have HX1 := Lib.hid x1
    have HX2 := Lib.hid x2
    have HX3 := Lib.hid x3
    have HO := Lib.hid (And.intro o0 (And.intro o1 (And.intro o2 (And.intro o3 (And.intro o4 o5)))))
    have r1 := Lib.hid x1.row
    have r2 := Lib.hid x2.row
    have r3 := Lib.hid x3.row
    have HE := Lib.hid hE
    have hEs := hE.size
    have hS := hE
    unfold zLd at r1
    unfold zGt at r2
    unfold zDn at r3
    clear x1 x2 x3 o0 o1 o2 o3 o4 o5 hE
    have q1 := r1.out.2.1
    have f1 := r1.out.2.2
    have q2 := r2.out.2.1
    have f2 := r2.out.2.2
    have q3 := r3.out.2.1
    have f3 := r3.out.2.2
    have n21 := nn12.symm
    have n31 := nn13.symm
    have n32 := nn23.symm
    unfold gta
    ((refine T_only (i := 9) rfl (by kernel_rfl) rfl (fun K hK => ?_); go_simp; refine hK.out _ _ (.inl (by kernel_rfl)) ?_; clear hK; (try simp only [Act.put, List.setIfInBounds_toArray, List.set_cons_zero, List.set_cons_succ])))
    ((refine T_only (i := 10) rfl (by kernel_rfl) rfl (fun K hK => ?_); go_simp; refine hK.out _ _ (.inl (by kernel_rfl)) ?_; clear hK; (try simp only [Act.put, List.setIfInBounds_toArray, List.set_cons_zero, List.set_cons_succ])))
    ((refine T_only (i := 11) rfl (by kernel_rfl) rfl (fun K hK => ?_); go_simp; refine hK.out _ _ (.inl (by kernel_rfl)) ?_; clear hK; (try simp only [Act.put, List.setIfInBounds_toArray, List.set_cons_zero, List.set_cons_succ])))
    refine T_done (by kernel_rfl) ?_ _
    obtain ⟨V, hV⟩ : ∃ V : World, V = (((((((((((((Z.setCell ⟨p1, 0, none⟩ (.slice B0 l.tickets.length d0)).setCell ⟨p1, 1, none⟩ (.slice B1 l.taps.length d1)).setCell ⟨p1, 2, none⟩ (.slice B2 l.verdicts.length d2)).setCell ⟨p2, 0, none⟩ (.int .i64 g.id)).setCell ⟨p2, 1, none⟩ (.int .i64 g.zone)).setCell ⟨p2, 2, none⟩ (.int .i64 g.seq)).setCell ⟨p2, 3, none⟩ (.slice B3 g.alone.length d3)).setCell ⟨p2, 4, none⟩ (.int .i64 g.denied.version)).setCell ⟨p2, 5, none⟩ (.slice B4 g.denied.ids.length d4)).setCell ⟨p2, 6, none⟩ (.int .i64 g.left)).setCell ⟨p2, 7, none⟩ (.int .i64 g.untl)).setCell ⟨p3, 0, none⟩ (.int .i64 d.version)).setCell ⟨p3, 1, none⟩ (.slice B5 d.ids.length d5)) := ⟨_, rfl⟩
    rw [← hV]
    obtain ⟨own, hown⟩ : ∃ own : Nat → Prop, own = fun q => q = p1 ∨ q = p2 ∨ q = p3 := ⟨_, rfl⟩
    have w1' : own p1 := by rw [hown]; exact .inl rfl
    have w2' : own p2 := by rw [hown]; exact .inr (.inl rfl)
    have w3' : own p3 := by rw [hown]; exact .inr (.inr rfl)
    have hfr : Fr own Z V := by
      rw [hV]
      exact Fr.setC w3' (Fr.setC w3' (Fr.setC w2' (Fr.setC w2' (Fr.setC w2' (Fr.setC w2' (Fr.setC w2' (Fr.setC w2' (Fr.setC w2' (Fr.setC w2' (Fr.setC w1' (Fr.setC w1' (Fr.setC w1' (Fr.refl _ _)))))))))))))
    have y1 : Bx V p1 26 #[.slice B0 l.tickets.length d0, .slice B1 l.taps.length d1, .slice B2 l.verdicts.length d2] := by
      rw [hV]
      iterate 2 refine Bx.far nn13 ?_
      iterate 8 refine Bx.far nn12 ?_
      exact ((HX1.out.set (i := 0)).set (i := 1)).set (i := 2)
    have y2 : Bx V p2 34 (gta g (.slice B3 g.alone.length d3) (.slice B4 g.denied.ids.length d4)) := by
      rw [hV]
      iterate 2 refine Bx.far nn23 ?_
      have h0 := ((HX2.out.far (a := ⟨p1, 0, none⟩) (u := .slice B0 l.tickets.length d0) n21).far (a := ⟨p1, 1, none⟩) (u := .slice B1 l.taps.length d1) n21).far (a := ⟨p1, 2, none⟩) (u := .slice B2 l.verdicts.length d2) n21
      exact (((((((h0.set (i := 0)).set (i := 1)).set (i := 2)).set (i := 3)).set (i := 4)).set (i := 5)).set (i := 6)).set (i := 7)
    have y3 : Bx V p3 30 #[.int .i64 d.version, .slice B5 d.ids.length d5] := by
      rw [hV]
      refine Bx.set (i := 1) (cs := #[.int .i64 d.version, .slice none 0 0]) (Bx.set (i := 0) (cs := zDn) ?_)
      iterate 8 refine Bx.far n32 ?_
      iterate 3 refine Bx.far n31 ?_
      exact HX3.out
    have hap : ∀ {α : Type} {e : TypeId} {k : Nat} {enc : α → Array Value} {v : Value} {m : List α}, OwnL e k enc Y.heap.size Z v m → e ≠ 26 → e ≠ 34 → e ≠ 30 → OwnL e k enc Y.heap.size V v m := by
      intro α e k enc v m h a b c
      refine hfr.own h ?_
      rw [hown]
      rintro q hq (rfl | rfl | rfl)
      · exact h.rowS.box HX1.out a hq
      · exact h.rowS.box HX2.out b hq
      · exact h.rowS.box HX3.out c hq
    obtain ⟨o0, o1, o2, o3, o4, o5⟩ := HO.out
    have HOV := Lib.hid (And.intro (hap o0 (by decide) (by decide) (by decide)) (And.intro (hap o1 (by decide) (by decide) (by decide)) (And.intro (hap o2 (by decide) (by decide) (by decide)) (And.intro (hap o3 (by decide) (by decide) (by decide)) (And.intro (hap o4 (by decide) (by decide) (by decide)) (hap o5 (by decide) (by decide) (by decide)))))))
    have hYV : Ext Y V := HE.out.fr hfr (by
      rw [hown]
      rintro q (rfl | rfl | rfl)
      · exact hp1
      · exact hp2
      · exact hp3)
    have HYV := Lib.hid hYV
    have HY1 := Lib.hid y1
    have HY2 := Lib.hid y2
    have HY3 := Lib.hid y3
    have hyv := hYV.size
    have hl1 := y1.lt
    have hl2 := y2.lt
    have hl3 := y3.lt
    have hRp1 := Lib.hid y1.row
    have hRp2 := Lib.hid y2.row
    have hRp3 := Lib.hid y3.row
    unfold gta at hRp2
    clear hap y1 y2 y3 hfr o0 o1 o2 o3 o4 o5 HO hown w1' w2' w3' hV hYV HX1 HX2 HX3 r1 r2 r3 q1 f1 q2 f2 q3 f3 HE hS hEs HK
    (apply Row.use (w := V) (g := w.heap.size); (focus (repeat (first | (with_reducible exact Hid.out ‹Hid (Row _ _ _)›) | (with_reducible exact Row.newAt rfl) | (with_reducible apply Row.newAt; (simp; done)) | (with_reducible apply Row.set_) | (with_reducible apply Row.far; focus (simp <;> omega)) | (with_reducible apply Row.alloc) | (with_reducible apply Row.drew) | (with_reducible apply Row.drewN) | (with_reducible apply Row.ext (Hid.out ‹Hid (Ext _ _)›))))); intro qv_0 fv_0 lv_0 Rv_0; (try simp only [List.setIfInBounds_toArray, List.set_cons_zero, List.set_cons_succ] at qv_0 Rv_0); apply Row.use (w := V) (g := w.heap.size + 1); (focus (repeat (first | (with_reducible exact Hid.out ‹Hid (Row _ _ _)›) | (with_reducible exact Row.newAt rfl) | (with_reducible apply Row.newAt; (simp; done)) | (with_reducible apply Row.set_) | (with_reducible apply Row.far; focus (simp <;> omega)) | (with_reducible apply Row.alloc) | (with_reducible apply Row.drew) | (with_reducible apply Row.drewN) | (with_reducible apply Row.ext (Hid.out ‹Hid (Ext _ _)›))))); intro qv_1 fv_1 lv_1 Rv_1; (try simp only [List.setIfInBounds_toArray, List.set_cons_zero, List.set_cons_succ] at qv_1 Rv_1); apply Row.use (w := V) (g := w.heap.size + 1 + 1); (focus (repeat (first | (with_reducible exact Hid.out ‹Hid (Row _ _ _)›) | (with_reducible exact Row.newAt rfl) | (with_reducible apply Row.newAt; (simp; done)) | (with_reducible apply Row.set_) | (with_reducible apply Row.far; focus (simp <;> omega)) | (with_reducible apply Row.alloc) | (with_reducible apply Row.drew) | (with_reducible apply Row.drewN) | (with_reducible apply Row.ext (Hid.out ‹Hid (Ext _ _)›))))); intro qv_2 fv_2 lv_2 Rv_2; (try simp only [List.setIfInBounds_toArray, List.set_cons_zero, List.set_cons_succ] at qv_2 Rv_2); apply Row.use (w := V) (g := w.heap.size + 1 + 1 + 1); (focus (repeat (first | (with_reducible exact Hid.out ‹Hid (Row _ _ _)›) | (with_reducible exact Row.newAt rfl) | (with_reducible apply Row.newAt; (simp; done)) | (with_reducible apply Row.set_) | (with_reducible apply Row.far; focus (simp <;> omega)) | (with_reducible apply Row.alloc) | (with_reducible apply Row.drew) | (with_reducible apply Row.drewN) | (with_reducible apply Row.ext (Hid.out ‹Hid (Ext _ _)›))))); intro qv_3 fv_3 lv_3 Rv_3; (try simp only [List.setIfInBounds_toArray, List.set_cons_zero, List.set_cons_succ] at qv_3 Rv_3); apply Row.use (w := V) (g := w.heap.size + 1 + 1 + 1 + 1); (focus (repeat (first | (with_reducible exact Hid.out ‹Hid (Row _ _ _)›) | (with_reducible exact Row.newAt rfl) | (with_reducible apply Row.newAt; (simp; done)) | (with_reducible apply Row.set_) | (with_reducible apply Row.far; focus (simp <;> omega)) | (with_reducible apply Row.alloc) | (with_reducible apply Row.drew) | (with_reducible apply Row.drewN) | (with_reducible apply Row.ext (Hid.out ‹Hid (Ext _ _)›))))); intro qv_4 fv_4 lv_4 Rv_4; (try simp only [List.setIfInBounds_toArray, List.set_cons_zero, List.set_cons_succ] at qv_4 Rv_4); apply Row.use (w := V) (g := p1); (focus (repeat (first | (with_reducible exact Hid.out ‹Hid (Row _ _ _)›) | (with_reducible exact Row.newAt rfl) | (with_reducible apply Row.newAt; (simp; done)) | (with_reducible apply Row.set_) | (with_reducible apply Row.far; focus (simp <;> omega)) | (with_reducible apply Row.alloc) | (with_reducible apply Row.drew) | (with_reducible apply Row.drewN) | (with_reducible apply Row.ext (Hid.out ‹Hid (Ext _ _)›))))); intro qv_5 fv_5 lv_5 Rv_5; (try simp only [List.setIfInBounds_toArray, List.set_cons_zero, List.set_cons_succ] at qv_5 Rv_5); apply Row.use (w := V) (g := p2); (focus (repeat (first | (with_reducible exact Hid.out ‹Hid (Row _ _ _)›) | (with_reducible exact Row.newAt rfl) | (with_reducible apply Row.newAt; (simp; done)) | (with_reducible apply Row.set_) | (with_reducible apply Row.far; focus (simp <;> omega)) | (with_reducible apply Row.alloc) | (with_reducible apply Row.drew) | (with_reducible apply Row.drewN) | (with_reducible apply Row.ext (Hid.out ‹Hid (Ext _ _)›))))); intro qv_6 fv_6 lv_6 Rv_6; (try simp only [List.setIfInBounds_toArray, List.set_cons_zero, List.set_cons_succ] at qv_6 Rv_6); apply Row.use (w := V) (g := p3); (focus (repeat (first | (with_reducible exact Hid.out ‹Hid (Row _ _ _)›) | (with_reducible exact Row.newAt rfl) | (with_reducible apply Row.newAt; (simp; done)) | (with_reducible apply Row.set_) | (with_reducible apply Row.far; focus (simp <;> omega)) | (with_reducible apply Row.alloc) | (with_reducible apply Row.drew) | (with_reducible apply Row.drewN) | (with_reducible apply Row.ext (Hid.out ‹Hid (Ext _ _)›))))); intro qv_7 fv_7 lv_7 Rv_7; (try simp only [List.setIfInBounds_toArray, List.set_cons_zero, List.set_cons_succ] at qv_7 Rv_7))
    clear hRp1 hRp2 hRp3
    have hwv : Ext w V := by repeat (first | (with_reducible exact Ext.refl _) | (with_reducible refine Ext.alloc ?_ _) | (with_reducible apply Ext.setC; focus (simp <;> omega)) | (with_reducible refine Ext.drew ?_) | (with_reducible refine Ext.drewN ?_ _) | (with_reducible refine Ext.trans ?_ (Hid.out ‹Hid (Ext _ _)›)))
    have HWV := Lib.hid hwv
    go_wp2_with fail
    refine (K4.out _ hwv).mono ?_
    rintro e w5 ⟨rfl, h5⟩
    have H5 := Lib.hid h5
    have hz5 := h5.size
    clear h5
    generalize hck : ckLedger ⟨l.tickets, l.taps, l.verdicts⟩ = ck
    have HCK := Lib.hid hck
    clear hck
    (apply Row.use (w := w5) (g := w.heap.size); (focus (repeat (first | (with_reducible exact Hid.out ‹Hid (Row _ _ _)›) | (with_reducible exact Row.newAt rfl) | (with_reducible apply Row.newAt; (simp; done)) | (with_reducible apply Row.set_) | (with_reducible apply Row.far; focus (simp <;> omega)) | (with_reducible apply Row.alloc) | (with_reducible apply Row.drew) | (with_reducible apply Row.drewN) | (with_reducible apply Row.ext (Hid.out ‹Hid (Ext _ _)›))))); intro qw_0 fw_0 lw_0 Rw_0; (try simp only [List.setIfInBounds_toArray, List.set_cons_zero, List.set_cons_succ] at qw_0 Rw_0); apply Row.use (w := w5) (g := w.heap.size + 1); (focus (repeat (first | (with_reducible exact Hid.out ‹Hid (Row _ _ _)›) | (with_reducible exact Row.newAt rfl) | (with_reducible apply Row.newAt; (simp; done)) | (with_reducible apply Row.set_) | (with_reducible apply Row.far; focus (simp <;> omega)) | (with_reducible apply Row.alloc) | (with_reducible apply Row.drew) | (with_reducible apply Row.drewN) | (with_reducible apply Row.ext (Hid.out ‹Hid (Ext _ _)›))))); intro qw_1 fw_1 lw_1 Rw_1; (try simp only [List.setIfInBounds_toArray, List.set_cons_zero, List.set_cons_succ] at qw_1 Rw_1); apply Row.use (w := w5) (g := p1); (focus (repeat (first | (with_reducible exact Hid.out ‹Hid (Row _ _ _)›) | (with_reducible exact Row.newAt rfl) | (with_reducible apply Row.newAt; (simp; done)) | (with_reducible apply Row.set_) | (with_reducible apply Row.far; focus (simp <;> omega)) | (with_reducible apply Row.alloc) | (with_reducible apply Row.drew) | (with_reducible apply Row.drewN) | (with_reducible apply Row.ext (Hid.out ‹Hid (Ext _ _)›))))); intro qw_2 fw_2 lw_2 Rw_2; (try simp only [List.setIfInBounds_toArray, List.set_cons_zero, List.set_cons_succ] at qw_2 Rw_2); apply Row.use (w := w5) (g := p2); (focus (repeat (first | (with_reducible exact Hid.out ‹Hid (Row _ _ _)›) | (with_reducible exact Row.newAt rfl) | (with_reducible apply Row.newAt; (simp; done)) | (with_reducible apply Row.set_) | (with_reducible apply Row.far; focus (simp <;> omega)) | (with_reducible apply Row.alloc) | (with_reducible apply Row.drew) | (with_reducible apply Row.drewN) | (with_reducible apply Row.ext (Hid.out ‹Hid (Ext _ _)›))))); intro qw_3 fw_3 lw_3 Rw_3; (try simp only [List.setIfInBounds_toArray, List.set_cons_zero, List.set_cons_succ] at qw_3 Rw_3); apply Row.use (w := w5) (g := p3); (focus (repeat (first | (with_reducible exact Hid.out ‹Hid (Row _ _ _)›) | (with_reducible exact Row.newAt rfl) | (with_reducible apply Row.newAt; (simp; done)) | (with_reducible apply Row.set_) | (with_reducible apply Row.far; focus (simp <;> omega)) | (with_reducible apply Row.alloc) | (with_reducible apply Row.drew) | (with_reducible apply Row.drewN) | (with_reducible apply Row.ext (Hid.out ‹Hid (Ext _ _)›))))); intro qw_4 fw_4 lw_4 Rw_4; (try simp only [List.setIfInBounds_toArray, List.set_cons_zero, List.set_cons_succ] at qw_4 Rw_4))
    go_upto_if 60 with fail
    go_cut [14] (fun s14 wr => s14 = .int .i64 (enterAll l P).2.2 ∧ Aside (Ext w5 wr ∧ ∃ (b : Ld) (u0 u1 u2 : Value), Row wr w5.heap.size #[u0, u1, u2] ∧ RdL 6 tkc wr u0 b.tickets ∧ RdL 5 tpc wr u1 b.taps ∧ RdL 1 inc wr u2 b.verdicts ∧ (enterAll l P).1 = if (enterAll l P).2.2 ≠ 0 then ld0 else b))
    case first =>
      have HEA := Lib.hid (show enterAll l P = if ck ≠ 0 then (ld0, 0, ck) else enterL l P by rw [← HCK.out]; rfl)
      by_cases hk : ck = 0
      · subst hk
        go_wp2_with fail
        refine (K5.out _ (by repeat (first | (with_reducible exact Ext.refl _) | (with_reducible refine Ext.alloc ?_ _) | (with_reducible apply Ext.setC; focus (simp <;> omega)) | (with_reducible refine Ext.drew ?_) | (with_reducible refine Ext.drewN ?_ _) | (with_reducible refine Ext.trans ?_ (Hid.out ‹Hid (Ext _ _)›)))) HCK.out).mono ?_
        rintro e w6 ⟨u0, u1, u2, rfl, h6, hu0, hu1, hu2⟩
        have hea := HEA.out
        rw [if_neg (by simp)] at hea
        rw [← hea] at hu0 hu1 hu2 ⊢
        obtain ⟨U0, x0, rfl, -, -⟩ := hu0.rd.form
        obtain ⟨U1, x1, rfl, -, -⟩ := hu1.rd.form
        obtain ⟨U2, x2, rfl, -, -⟩ := hu2.rd.form
        have HER := Lib.hid (fun (h : (enterAll l P).2.2 ≠ 0) => enterAll_err h)
        generalize enterAll l P = X at *
        obtain ⟨⟨X0, X1, X2⟩, X3, X4⟩ := X
        simp only at hu0 hu1 hu2 ⊢
        have HU0 := Lib.hid hu0
        have HU1 := Lib.hid hu1
        have HU2 := Lib.hid hu2
        have H6 := Lib.hid h6
        have hz6 := h6.size
        (try simp only [World.size_alloc] at hz6)
        clear h6 hu0 hu1 hu2 hea HEA
        (apply Row.use (w := w6) (g := w5.heap.size); (focus (repeat (first | (with_reducible exact Hid.out ‹Hid (Row _ _ _)›) | (with_reducible exact Row.newAt rfl) | (with_reducible apply Row.newAt; (simp; done)) | (with_reducible apply Row.set_) | (with_reducible apply Row.far; focus (simp <;> omega)) | (with_reducible apply Row.alloc) | (with_reducible apply Row.drew) | (with_reducible apply Row.drewN) | (with_reducible apply Row.ext (Hid.out ‹Hid (Ext _ _)›))))); intro qx_0 fx_0 lx_0 Rx_0; (try simp only [List.setIfInBounds_toArray, List.set_cons_zero, List.set_cons_succ] at qx_0 Rx_0))
        go_wp2_with fail
        go_meet
        case rel =>
          refine ⟨rfl, (show Ext w5 _ by repeat (first | (with_reducible exact Ext.refl _) | (with_reducible refine Ext.alloc ?_ _) | (with_reducible apply Ext.setC; focus (simp <;> omega)) | (with_reducible refine Ext.drew ?_) | (with_reducible refine Ext.drewN ?_ _) | (with_reducible refine Ext.trans ?_ (Hid.out ‹Hid (Ext _ _)›)))), ⟨X0, X1, X2⟩, .slice U0 X0.length x0, .slice U1 X1.length x1, .slice U2 X2.length x2, ?_, ?_, ?_, ?_, ?_⟩
          · have := ((Rx_0.out.set_ (i := 0) (u := .slice U0 X0.length x0)).set_ (i := 1) (u := .slice U1 X1.length x1)).set_ (i := 2) (u := .slice U2 X2.length x2)
            simpa using this
          · exact (((HU0.out.setC (by simp; omega)).setC (by simp; omega)).setC (by simp; omega)).rd
          · exact (((HU1.out.setC (by simp; omega)).setC (by simp; omega)).setC (by simp; omega)).rd
          · exact (((HU2.out.setC (by simp; omega)).setC (by simp; omega)).setC (by simp; omega)).rd
          · by_cases h4 : X4 = 0
            · simp [h4]
            · rw [if_pos h4]; exact HER.out h4
      · have hkb : (ck == 0) = false := by simpa using hk
        go_wp2_with fail
        go_meet
        case rel =>
          rw [HEA.out, if_pos hk]
          exact ⟨rfl, (Ext.refl _).alloc _, ld0, _, _, _, Row.newAt rfl, RdL.nil, RdL.nil, RdL.nil, by simp⟩
    case rest =>
      obtain ⟨rfl, HS⟩ := hcut
      obtain ⟨hx5, b, u0, u1, u2, hrw, hb0, hb1, hb2, heq⟩ := HS.out
      clear HS
      obtain ⟨U0, x0, rfl, -, -⟩ := hb0.form
      obtain ⟨U1, x1, rfl, -, -⟩ := hb1.form
      obtain ⟨U2, x2, rfl, -, -⟩ := hb2.form
      have HRW := Lib.hid hrw
      have HB0 := Lib.hid hb0
      have HB1 := Lib.hid hb1
      have HB2 := Lib.hid hb2
      have HEQ := Lib.hid heq
      have HX5 := Lib.hid hx5
      have hz6 := hx5.size
      clear hrw hb0 hb1 hb2 heq hx5
      (apply Row.use (w := wc) (g := w.heap.size); (focus (repeat (first | (with_reducible exact Hid.out ‹Hid (Row _ _ _)›) | (with_reducible exact Row.newAt rfl) | (with_reducible apply Row.newAt; (simp; done)) | (with_reducible apply Row.set_) | (with_reducible apply Row.far; focus (simp <;> omega)) | (with_reducible apply Row.alloc) | (with_reducible apply Row.drew) | (with_reducible apply Row.drewN) | (with_reducible apply Row.ext (Hid.out ‹Hid (Ext _ _)›))))); intro qc_0 fc_0 lc_0 Rc_0; (try simp only [List.setIfInBounds_toArray, List.set_cons_zero, List.set_cons_succ] at qc_0 Rc_0); apply Row.use (w := wc) (g := w.heap.size + 1); (focus (repeat (first | (with_reducible exact Hid.out ‹Hid (Row _ _ _)›) | (with_reducible exact Row.newAt rfl) | (with_reducible apply Row.newAt; (simp; done)) | (with_reducible apply Row.set_) | (with_reducible apply Row.far; focus (simp <;> omega)) | (with_reducible apply Row.alloc) | (with_reducible apply Row.drew) | (with_reducible apply Row.drewN) | (with_reducible apply Row.ext (Hid.out ‹Hid (Ext _ _)›))))); intro qc_1 fc_1 lc_1 Rc_1; (try simp only [List.setIfInBounds_toArray, List.set_cons_zero, List.set_cons_succ] at qc_1 Rc_1); apply Row.use (w := wc) (g := w.heap.size + 1 + 1); (focus (repeat (first | (with_reducible exact Hid.out ‹Hid (Row _ _ _)›) | (with_reducible exact Row.newAt rfl) | (with_reducible apply Row.newAt; (simp; done)) | (with_reducible apply Row.set_) | (with_reducible apply Row.far; focus (simp <;> omega)) | (with_reducible apply Row.alloc) | (with_reducible apply Row.drew) | (with_reducible apply Row.drewN) | (with_reducible apply Row.ext (Hid.out ‹Hid (Ext _ _)›))))); intro qc_2 fc_2 lc_2 Rc_2; (try simp only [List.setIfInBounds_toArray, List.set_cons_zero, List.set_cons_succ] at qc_2 Rc_2); apply Row.use (w := wc) (g := w.heap.size + 1 + 1 + 1); (focus (repeat (first | (with_reducible exact Hid.out ‹Hid (Row _ _ _)›) | (with_reducible exact Row.newAt rfl) | (with_reducible apply Row.newAt; (simp; done)) | (with_reducible apply Row.set_) | (with_reducible apply Row.far; focus (simp <;> omega)) | (with_reducible apply Row.alloc) | (with_reducible apply Row.drew) | (with_reducible apply Row.drewN) | (with_reducible apply Row.ext (Hid.out ‹Hid (Ext _ _)›))))); intro qc_3 fc_3 lc_3 Rc_3; (try simp only [List.setIfInBounds_toArray, List.set_cons_zero, List.set_cons_succ] at qc_3 Rc_3); apply Row.use (w := wc) (g := w.heap.size + 1 + 1 + 1 + 1); (focus (repeat (first | (with_reducible exact Hid.out ‹Hid (Row _ _ _)›) | (with_reducible exact Row.newAt rfl) | (with_reducible apply Row.newAt; (simp; done)) | (with_reducible apply Row.set_) | (with_reducible apply Row.far; focus (simp <;> omega)) | (with_reducible apply Row.alloc) | (with_reducible apply Row.drew) | (with_reducible apply Row.drewN) | (with_reducible apply Row.ext (Hid.out ‹Hid (Ext _ _)›))))); intro qc_4 fc_4 lc_4 Rc_4; (try simp only [List.setIfInBounds_toArray, List.set_cons_zero, List.set_cons_succ] at qc_4 Rc_4); apply Row.use (w := wc) (g := p1); (focus (repeat (first | (with_reducible exact Hid.out ‹Hid (Row _ _ _)›) | (with_reducible exact Row.newAt rfl) | (with_reducible apply Row.newAt; (simp; done)) | (with_reducible apply Row.set_) | (with_reducible apply Row.far; focus (simp <;> omega)) | (with_reducible apply Row.alloc) | (with_reducible apply Row.drew) | (with_reducible apply Row.drewN) | (with_reducible apply Row.ext (Hid.out ‹Hid (Ext _ _)›))))); intro qc_5 fc_5 lc_5 Rc_5; (try simp only [List.setIfInBounds_toArray, List.set_cons_zero, List.set_cons_succ] at qc_5 Rc_5); apply Row.use (w := wc) (g := p2); (focus (repeat (first | (with_reducible exact Hid.out ‹Hid (Row _ _ _)›) | (with_reducible exact Row.newAt rfl) | (with_reducible apply Row.newAt; (simp; done)) | (with_reducible apply Row.set_) | (with_reducible apply Row.far; focus (simp <;> omega)) | (with_reducible apply Row.alloc) | (with_reducible apply Row.drew) | (with_reducible apply Row.drewN) | (with_reducible apply Row.ext (Hid.out ‹Hid (Ext _ _)›))))); intro qc_6 fc_6 lc_6 Rc_6; (try simp only [List.setIfInBounds_toArray, List.set_cons_zero, List.set_cons_succ] at qc_6 Rc_6); apply Row.use (w := wc) (g := p3); (focus (repeat (first | (with_reducible exact Hid.out ‹Hid (Row _ _ _)›) | (with_reducible exact Row.newAt rfl) | (with_reducible apply Row.newAt; (simp; done)) | (with_reducible apply Row.set_) | (with_reducible apply Row.far; focus (simp <;> omega)) | (with_reducible apply Row.alloc) | (with_reducible apply Row.drew) | (with_reducible apply Row.drewN) | (with_reducible apply Row.ext (Hid.out ‹Hid (Ext _ _)›))))); intro qc_7 fc_7 lc_7 Rc_7; (try simp only [List.setIfInBounds_toArray, List.set_cons_zero, List.set_cons_succ] at qc_7 Rc_7); apply Row.use (w := wc) (g := w5.heap.size); (focus (repeat (first | (with_reducible exact Hid.out ‹Hid (Row _ _ _)›) | (with_reducible exact Row.newAt rfl) | (with_reducible apply Row.newAt; (simp; done)) | (with_reducible apply Row.set_) | (with_reducible apply Row.far; focus (simp <;> omega)) | (with_reducible apply Row.alloc) | (with_reducible apply Row.drew) | (with_reducible apply Row.drewN) | (with_reducible apply Row.ext (Hid.out ‹Hid (Ext _ _)›))))); intro qc_8 fc_8 lc_8 Rc_8; (try simp only [List.setIfInBounds_toArray, List.set_cons_zero, List.set_cons_succ] at qc_8 Rc_8))
      have hVc : Ext V wc := H5.out.trans HX5.out
      have HWC := Lib.hid (HWV.out.trans hVc)
      have HVC := Lib.hid hVc
      obtain ⟨o0, o1, o2, o3, o4, o5⟩ := HOV.out
      obtain ⟨z0, z1, z2, z3, z4, z5⟩ := R0.out
      have r0 := (o0.rd tkc_size).ext hVc
      have r1 := (o1.rd tpc_size).ext hVc
      have r2 := (o2.rd inc_size).ext hVc
      have r3 := (o3.rd tpc_size).ext hVc
      have r4 := (o4.rd inc_size).ext hVc
      have r5 := (o5.rd inc_size).ext hVc
      have KE := Lib.hid (fun (w' : World) (h : Ext wc w') => ledger_Enter l _ _ _ P w' (r0.ext h) (r1.ext h) (r2.ext h))
      have KS := Lib.hid (fun (w' : World) (h : Ext wc w') => ledger_Sell l _ _ _ t w' (r0.ext h) (r1.ext h) (r2.ext h) HZ.out)
      have KM := Lib.hid (fun (w' : World) (h : Ext wc w') => merge_Into l g.alone _ _ _ _ w' (r0.ext h) (r1.ext h) (r2.ext h) (r3.ext h))
      have KO := Lib.hid (fun (w' : World) (h : Ext wc w') => merge_Order g.alone _ w' (r3.ext h))
      have KT := Lib.hid (fun (w' : World) (h : Ext wc w') => gate_Tap g _ _ t 50 w' (r3.ext h) (r4.ext h))
      have KY := Lib.hid (fun (w' : World) (h : Ext wc w') => gate_Sync g _ _ d _ 50 w' (r3.ext h) (r4.ext h) (r5.ext h))
      have KA := Lib.hid (fun (w' : World) (h : Ext wc w') => denied_Add d _ 77 w' (r5.ext h))
      have KN := Lib.hid (fun (w' : World) (h : Ext wc w') => denied_Newer d g.denied _ _ w' (r5.ext h) (r4.ext h))
      have KL := Lib.hid (fun (w' : World) (h : Ext wc w') => ref_SameLedger_so l _ _ _ _ _ _ w' (r0.ext h) (r1.ext h) (r2.ext h) ((z0.ext HWC.out).ext h) ((z1.ext HWC.out).ext h) ((z2.ext HWC.out).ext h))
      have KG := Lib.hid (fun (w' : World) (h : Ext wc w') => ref_SameGate_so g _ _ _ _ w' (r3.ext h) (r4.ext h) ((z3.ext HWC.out).ext h) ((z4.ext HWC.out).ext h))
      have KD := Lib.hid (fun (w' : World) (h : Ext wc w') => ref_SameDenied_so d _ _ w' (r5.ext h) ((z5.ext HWC.out).ext h))
      have KI := Lib.hid (fun (w' : World) (h : Ext wc w') (t0 t1 t2 : Value) (h0 : RdL 6 tkc w' t0 (enterAll l P).1.tickets) (h1 : RdL 5 tpc w' t1 (enterAll l P).1.taps) (h2 : RdL 1 inc w' t2 (enterAll l P).1.verdicts) => law_ledgerIs_so (enterAll l P).1 b (enterAll l P).2.2 t0 t1 t2 _ _ _ w' h0 h1 h2 (HB0.out.ext h) (HB1.out.ext h) (HB2.out.ext h) HEQ.out)
      clear hVc o0 o1 o2 o3 o4 o5 z0 z1 z2 z3 z4 z5 r0 r1 r2 r3 r4 r5 HEQ HB0 HB1 HB2 HOV R0 K1 K2 K3 K4 K5 HCK
      generalize enterAll l P = EA at *
      obtain ⟨⟨E0, E1, E2⟩, E3, E4⟩ := EA
      generalize sellAll l t = SA at *
      obtain ⟨⟨S0, S1, S2⟩, S3⟩ := SA
      generalize intoAll l g.alone = MA at *
      obtain ⟨⟨M0, M1, M2⟩, M3, M4⟩ := MA
      generalize orderL g.alone = OA at *
      obtain ⟨O0, O1⟩ := OA
      generalize tapAll g t 50 = TA at *
      obtain ⟨⟨a1, a2, a3, a4, ⟨a5, a6⟩, a7, a8⟩, ⟨b1, b2, b3, b4, b5⟩, T2⟩ := TA
      generalize syncAll g d 50 = YA at *
      obtain ⟨⟨c1, c2, c3, c4, ⟨c5, c6⟩, c7, c8⟩, Y1, Y2⟩ := YA
      generalize denyAll d 77 = DA at *
      obtain ⟨⟨d1, d2⟩, D3⟩ := DA
      generalize newerAll d g.denied = NA at *
      obtain ⟨⟨e1, e2⟩, N3⟩ := NA
      simp only at KE KS KM KO KT KY KA KN KI ⊢
      try clear qa_0
      try clear fa_0
      try clear la_0
      try clear Ra_0
      try clear qa_1
      try clear fa_1
      try clear la_1
      try clear Ra_1
      try clear qa_2
      try clear fa_2
      try clear la_2
      try clear Ra_2
      try clear qa_3
      try clear fa_3
      try clear la_3
      try clear Ra_3
      try clear qa_4
      try clear fa_4
      try clear la_4
      try clear Ra_4
      try clear qv_0
      try clear fv_0
      try clear lv_0
      try clear Rv_0
      try clear qv_1
      try clear fv_1
      try clear lv_1
      try clear Rv_1
      try clear qv_2
      try clear fv_2
      try clear lv_2
      try clear Rv_2
      try clear qv_3
      try clear fv_3
      try clear lv_3
      try clear Rv_3
      try clear qv_4
      try clear fv_4
      try clear lv_4
      try clear Rv_4
      try clear qv_5
      try clear fv_5
      try clear lv_5
      try clear Rv_5
      try clear qv_6
      try clear fv_6
      try clear lv_6
      try clear Rv_6
      try clear qv_7
      try clear fv_7
      try clear lv_7
      try clear Rv_7
      try clear qw_0
      try clear fw_0
      try clear lw_0
      try clear Rw_0
      try clear qw_1
      try clear fw_1
      try clear lw_1
      try clear Rw_1
      try clear qw_2
      try clear fw_2
      try clear lw_2
      try clear Rw_2
      try clear qw_3
      try clear fw_3
      try clear lw_3
      try clear Rw_3
      try clear qw_4
      try clear fw_4
      try clear lw_4
      try clear Rw_4
      try clear q1_0
      try clear f1_0
      try clear l1_0
      try clear R1_0
      try clear q1_1
      try clear f1_1
      try clear l1_1
      try clear R1_1
      try clear q1_2
      try clear f1_2
      try clear l1_2
      try clear R1_2
      try clear q1_3
      try clear f1_3
      try clear l1_3
      try clear R1_3
      try clear q1_4
      try clear f1_4
      try clear l1_4
      try clear R1_4
      try clear q2_0
      try clear f2_0
      try clear l2_0
      try clear R2_0
      try clear q2_1
      try clear f2_1
      try clear l2_1
      try clear R2_1
      try clear q2_2
      try clear f2_2
      try clear l2_2
      try clear R2_2
      try clear q2_3
      try clear f2_3
      try clear l2_3
      try clear R2_3
      try clear q2_4
      try clear f2_4
      try clear l2_4
      try clear R2_4
      try clear q3_0
      try clear f3_0
      try clear l3_0
      try clear R3_0
      try clear q3_1
      try clear f3_1
      try clear l3_1
      try clear R3_1
      try clear q3_2
      try clear f3_2
      try clear l3_2
      try clear R3_2
      try clear q3_3
      try clear f3_3
      try clear l3_3
      try clear R3_3
      try clear q3_4
      try clear f3_4
      try clear l3_4
      try clear R3_4
      try clear q4_0
      try clear f4_0
      try clear l4_0
      try clear R4_0
      try clear q4_1
      try clear f4_1
      try clear l4_1
      try clear R4_1
      try clear q4_2
      try clear f4_2
      try clear l4_2
      try clear R4_2
      try clear q4_3
      try clear f4_3
      try clear l4_3
      try clear R4_3
      try clear q4_4
      try clear f4_4
      try clear l4_4
      try clear R4_4
      try clear qc_0 fc_0
      try clear qc_1 fc_1
      try clear qc_2 fc_2
      try clear qc_3 fc_3
      try clear qc_4 fc_4
      try clear qc_5 fc_5
      try clear qc_6 fc_6
      try clear qc_7 fc_7
      try clear qc_8 fc_8
      try clear hyv
      try clear hl1
      try clear hl2
      try clear hl3
      try clear nn12
      try clear nn13
      try clear nn23
      try clear n21
      try clear n31
      try clear n32
      try clear HYV
      try clear HY1
      try clear HY2
      try clear HY3
      try clear hwv
      try clear hz5
      try clear hz6
      try clear hp1
      try clear hp2
      try clear hp3
      try clear hS
      try clear hwy
      try clear HWV
      try clear HX5
      try clear H5
      try clear HVC
      go_wp2_with fail
      go_loopg [16] 2 (fun gg s16 wr => ∃ k : Nat, k ≤ 2 ∧ 2 - k ≤ gg ∧ s16 = .int .i64 k ∧ Aside (Ext wc wr))
      case atStart => exact ⟨0, Nat.zero_le _, by omega, rfl, Ext.refl _⟩
      case round =>
        obtain ⟨k, hk, hg, rfl, HA⟩ := hrel
        have HEr := Lib.hid HA.out
        have hzr := HA.out.size
        clear HA
        by_cases hlt : k < 2
        · have hlt' : (k : Int) < 2 := by omega
          (obtain ⟨lr_1, qr_1, fr_1⟩ := Row.ext HEr.out Rc_1.out; obtain ⟨lr_5, qr_5, fr_5⟩ := Row.ext HEr.out Rc_5.out)
          go_wp2_with fail
          refine (KE.out _ HEr.out).mono ?_
          rintro e v1 ⟨t0, t1, t2, rfl, h1, ho⟩
          have HP1 := Lib.hid (((Pool.nil (w := wr)).ext h1).ld ho (by omega))
          have HO1 := Lib.hid (And.intro (ho.tk.rd tkc_size) (And.intro (ho.tp.rd tpc_size) (ho.vd.rd inc_size)))
          obtain ⟨A10, n10, A11, n11, A12, n12, rfl, rfl, rfl⟩ := ho.forms
          have HE1 := Lib.hid (HEr.out.trans h1)
          have hz1 := h1.size
          clear h1 ho
          (obtain ⟨lv1_5, qv1_5, fv1_5⟩ := Row.ext HE1.out Rc_5.out; obtain ⟨lv1_8, qv1_8, fv1_8⟩ := Row.ext HE1.out Rc_8.out)
          go_wp2_with fail
          -- BODY
          refine (KI.out _ (HE1.out.trans (by repeat (first | (with_reducible exact Ext.refl _) | (with_reducible refine Ext.alloc ?_ _) | (with_reducible apply Ext.setC; focus (simp <;> omega)) | (with_reducible refine Ext.drew ?_) | (with_reducible refine Ext.drewN ?_ _) | (with_reducible refine Ext.trans ?_ (Hid.out ‹Hid (Ext _ _)›))))) _ _ _ (HO1.out.1.ext (by repeat (first | (with_reducible exact Ext.refl _) | (with_reducible refine Ext.alloc ?_ _) | (with_reducible apply Ext.setC; focus (simp <;> omega)) | (with_reducible refine Ext.drew ?_) | (with_reducible refine Ext.drewN ?_ _) | (with_reducible refine Ext.trans ?_ (Hid.out ‹Hid (Ext _ _)›))))) (HO1.out.2.1.ext (by repeat (first | (with_reducible exact Ext.refl _) | (with_reducible refine Ext.alloc ?_ _) | (with_reducible apply Ext.setC; focus (simp <;> omega)) | (with_reducible refine Ext.drew ?_) | (with_reducible refine Ext.drewN ?_ _) | (with_reducible refine Ext.trans ?_ (Hid.out ‹Hid (Ext _ _)›))))) (HO1.out.2.2.ext (by repeat (first | (with_reducible exact Ext.refl _) | (with_reducible refine Ext.alloc ?_ _) | (with_reducible apply Ext.setC; focus (simp <;> omega)) | (with_reducible refine Ext.drew ?_) | (with_reducible refine Ext.drewN ?_ _) | (with_reducible refine Ext.trans ?_ (Hid.out ‹Hid (Ext _ _)›)))))).mono ?_
          rintro e v2 ⟨rfl, h1⟩
          have HP2 := Lib.hid (HP1.out.step (p := v1.heap.size) (e := 26) (cs := #[.slice A10 E0.length n10, .slice A11 E1.length n11, .slice A12 E2.length n12]) h1 (by repeat (first | (with_reducible exact Ext.refl _) | (with_reducible refine Ext.alloc ?_ _) | (with_reducible apply Ext.setC; focus (simp <;> omega)) | (with_reducible refine Ext.drew ?_) | (with_reducible refine Ext.drewN ?_ _) | (with_reducible refine Ext.trans ?_ (Hid.out ‹Hid (Ext _ _)›)))) (by first | exact Bx.new | exact (((Bx.new.set (i := 0)).set (i := 1)).set (i := 2))) (by decide))
          have HE2 := Lib.hid ((HE1.out.trans (by repeat (first | (with_reducible exact Ext.refl _) | (with_reducible refine Ext.alloc ?_ _) | (with_reducible apply Ext.setC; focus (simp <;> omega)) | (with_reducible refine Ext.drew ?_) | (with_reducible refine Ext.drewN ?_ _) | (with_reducible refine Ext.trans ?_ (Hid.out ‹Hid (Ext _ _)›))))).trans h1)
          clear HO1
          have hy2 := HP2.out.1.size
          clear h1 hz1 lv1_5 qv1_5 fv1_5 lv1_8 qv1_8 fv1_8 lr_1 qr_1 fr_1 lr_5 qr_5 fr_5 HP1 HE1
          (obtain ⟨lv2_4, qv2_4, fv2_4⟩ := Row.ext HE2.out Rc_4.out; obtain ⟨lv2_5, qv2_5, fv2_5⟩ := Row.ext HE2.out Rc_5.out)
          go_wp2_with fail
          refine (KS.out _ HE2.out).mono ?_
          rintro e v3 ⟨t0, t1, t2, rfl, h1, ho⟩
          have HP3 := Lib.hid ((HP2.out.ext h1).ld ho (by omega))
          obtain ⟨A30, n30, A31, n31, A32, n32, rfl, rfl, rfl⟩ := ho.forms
          have HE3 := Lib.hid (HE2.out.trans h1)
          clear ho
          have hy3 := HP3.out.1.size
          clear h1 hy2 lv2_4 lv2_5 qv2_4 qv2_5 fv2_4 fv2_5 HP2 HE2
          (obtain ⟨lv3_5, qv3_5, fv3_5⟩ := Row.ext HE3.out Rc_5.out; obtain ⟨lv3_6, qv3_6, fv3_6⟩ := Row.ext HE3.out Rc_6.out)
          go_wp2_with fail
          refine (KM.out _ (HE3.out.trans (by repeat (first | (with_reducible exact Ext.refl _) | (with_reducible refine Ext.alloc ?_ _) | (with_reducible apply Ext.setC; focus (simp <;> omega)) | (with_reducible refine Ext.drew ?_) | (with_reducible refine Ext.drewN ?_ _) | (with_reducible refine Ext.trans ?_ (Hid.out ‹Hid (Ext _ _)›)))))).mono ?_
          rintro e v4 ⟨t0, t1, t2, so, rfl, h1, ho, hso, -⟩
          have HP4 := Lib.hid (((HP3.out.step (p := v3.heap.size) (e := 26) (cs := #[.slice A30 S0.length n30, .slice A31 S1.length n31, .slice A32 S2.length n32]) h1 (by repeat (first | (with_reducible exact Ext.refl _) | (with_reducible refine Ext.alloc ?_ _) | (with_reducible apply Ext.setC; focus (simp <;> omega)) | (with_reducible refine Ext.drew ?_) | (with_reducible refine Ext.drewN ?_ _) | (with_reducible refine Ext.trans ?_ (Hid.out ‹Hid (Ext _ _)›)))) (by first | exact Bx.new | exact (((Bx.new.set (i := 0)).set (i := 1)).set (i := 2))) (by decide)).ld ho (by simp only [World.size_alloc, size_set]; omega)).own hso (by simp only [World.size_alloc, size_set]; omega))
          obtain ⟨A40, n40, A41, n41, A42, n42, rfl, rfl, rfl⟩ := ho.forms
          obtain ⟨A43, n43, rfl⟩ := hso.form
          have HE4 := Lib.hid ((HE3.out.trans (by repeat (first | (with_reducible exact Ext.refl _) | (with_reducible refine Ext.alloc ?_ _) | (with_reducible apply Ext.setC; focus (simp <;> omega)) | (with_reducible refine Ext.drew ?_) | (with_reducible refine Ext.drewN ?_ _) | (with_reducible refine Ext.trans ?_ (Hid.out ‹Hid (Ext _ _)›))))).trans h1)
          clear ho hso
          have hy4 := HP4.out.1.size
          clear h1 hy3 lv3_5 lv3_6 qv3_5 qv3_6 fv3_5 fv3_6 HP3 HE3
          (obtain ⟨lv4_6, qv4_6, fv4_6⟩ := Row.ext HE4.out Rc_6.out)
          go_wp2_with fail
          refine (KO.out _ (HE4.out.trans (by repeat (first | (with_reducible exact Ext.refl _) | (with_reducible refine Ext.alloc ?_ _) | (with_reducible apply Ext.setC; focus (simp <;> omega)) | (with_reducible refine Ext.drew ?_) | (with_reducible refine Ext.drewN ?_ _) | (with_reducible refine Ext.trans ?_ (Hid.out ‹Hid (Ext _ _)›)))))).mono ?_
          rintro e v5 ⟨so, rfl, h1, hso⟩
          have HP5 := Lib.hid ((HP4.out.step (p := v4.heap.size) (e := 26) (cs := #[.slice A40 M0.length n40, .slice A41 M1.length n41, .slice A42 M2.length n42]) h1 (by repeat (first | (with_reducible exact Ext.refl _) | (with_reducible refine Ext.alloc ?_ _) | (with_reducible apply Ext.setC; focus (simp <;> omega)) | (with_reducible refine Ext.drew ?_) | (with_reducible refine Ext.drewN ?_ _) | (with_reducible refine Ext.trans ?_ (Hid.out ‹Hid (Ext _ _)›)))) (by first | exact Bx.new | exact (((Bx.new.set (i := 0)).set (i := 1)).set (i := 2))) (by decide)).own hso (by simp only [World.size_alloc, size_set]; omega))
          obtain ⟨A50, n50, rfl⟩ := hso.form
          have HE5 := Lib.hid ((HE4.out.trans (by repeat (first | (with_reducible exact Ext.refl _) | (with_reducible refine Ext.alloc ?_ _) | (with_reducible apply Ext.setC; focus (simp <;> omega)) | (with_reducible refine Ext.drew ?_) | (with_reducible refine Ext.drewN ?_ _) | (with_reducible refine Ext.trans ?_ (Hid.out ‹Hid (Ext _ _)›))))).trans h1)
          clear hso
          have hy5 := HP5.out.1.size
          clear h1 hy4 lv4_6 qv4_6 fv4_6 HP4 HE4
          (obtain ⟨lv5_4, qv5_4, fv5_4⟩ := Row.ext HE5.out Rc_4.out; obtain ⟨lv5_6, qv5_6, fv5_6⟩ := Row.ext HE5.out Rc_6.out)
          go_wp2_with fail
          refine (KT.out _ HE5.out).mono ?_
          rintro e v6 ⟨sa, si, rfl, h1, ho, hso⟩
          have HP6 := Lib.hid (((HP5.out.ext h1).own ho (by omega)).own hso (by omega))
          obtain ⟨A60, n60, rfl⟩ := ho.form
          obtain ⟨A61, n61, rfl⟩ := hso.form
          have HE6 := Lib.hid (HE5.out.trans h1)
          clear ho hso
          unfold gta tpc
          have hy6 := HP6.out.1.size
          clear h1 hy5 lv5_4 lv5_6 qv5_4 qv5_6 fv5_4 fv5_6 HP5 HE5
          (obtain ⟨lv6_6, qv6_6, fv6_6⟩ := Row.ext HE6.out Rc_6.out; obtain ⟨lv6_7, qv6_7, fv6_7⟩ := Row.ext HE6.out Rc_7.out)
          go_wp2_with fail
          refine (KY.out _ (HE6.out.trans (by repeat (first | (with_reducible exact Ext.refl _) | (with_reducible refine Ext.alloc ?_ _) | (with_reducible apply Ext.setC; focus (simp <;> omega)) | (with_reducible refine Ext.drew ?_) | (with_reducible refine Ext.drewN ?_ _) | (with_reducible refine Ext.trans ?_ (Hid.out ‹Hid (Ext _ _)›)))))).mono ?_
          rintro e v7 ⟨sl, si, rfl, h1, ho, hso⟩
          have HP7 := Lib.hid (((HP6.out.step (p := v6.heap.size) (e := 34) (cs := #[.int .i64 a1, .int .i64 a2, .int .i64 a3, .slice A60 a4.length n60, .int .i64 a5, .slice A61 a6.length n61, .int .i64 a7, .int .i64 a8]) h1 (by repeat (first | (with_reducible exact Ext.refl _) | (with_reducible refine Ext.alloc ?_ _) | (with_reducible apply Ext.setC; focus (simp <;> omega)) | (with_reducible refine Ext.drew ?_) | (with_reducible refine Ext.drewN ?_ _) | (with_reducible refine Ext.trans ?_ (Hid.out ‹Hid (Ext _ _)›)))) (by first | exact Bx.new.alloc _ | exact (Bx.far (by simp) (Bx.far (by simp) (Bx.far (by simp) (Bx.far (by simp) (Bx.far (by simp) (((((((((Bx.new.alloc _).set (i := 0)).set (i := 1)).set (i := 2)).set (i := 3)).set (i := 4)).set (i := 5)).set (i := 6)).set (i := 7)))))))) (by decide)).own ho (by simp only [World.size_alloc, size_set]; omega)).own hso (by simp only [World.size_alloc, size_set]; omega))
          obtain ⟨A70, n70, rfl⟩ := ho.form
          obtain ⟨A71, n71, rfl⟩ := hso.form
          have HE7 := Lib.hid ((HE6.out.trans (by repeat (first | (with_reducible exact Ext.refl _) | (with_reducible refine Ext.alloc ?_ _) | (with_reducible apply Ext.setC; focus (simp <;> omega)) | (with_reducible refine Ext.drew ?_) | (with_reducible refine Ext.drewN ?_ _) | (with_reducible refine Ext.trans ?_ (Hid.out ‹Hid (Ext _ _)›))))).trans h1)
          clear ho hso
          unfold gta
          have hy7 := HP7.out.1.size
          clear h1 hy6 lv6_6 lv6_7 qv6_6 qv6_7 fv6_6 fv6_7 HP6 HE6
          (obtain ⟨lv7_7, qv7_7, fv7_7⟩ := Row.ext HE7.out Rc_7.out)
          go_wp2_with fail
          refine (KA.out _ (HE7.out.trans (by repeat (first | (with_reducible exact Ext.refl _) | (with_reducible refine Ext.alloc ?_ _) | (with_reducible apply Ext.setC; focus (simp <;> omega)) | (with_reducible refine Ext.drew ?_) | (with_reducible refine Ext.drewN ?_ _) | (with_reducible refine Ext.trans ?_ (Hid.out ‹Hid (Ext _ _)›)))))).mono ?_
          rintro e v8 ⟨si, rfl, h1, hso⟩
          have HP8 := Lib.hid ((HP7.out.step (p := v7.heap.size) (e := 34) (cs := #[.int .i64 c1, .int .i64 c2, .int .i64 c3, .slice none 0 0, .int .i64 c5, .slice A71 c6.length n71, .int .i64 c7, .int .i64 c8]) h1 (by repeat (first | (with_reducible exact Ext.refl _) | (with_reducible refine Ext.alloc ?_ _) | (with_reducible apply Ext.setC; focus (simp <;> omega)) | (with_reducible refine Ext.drew ?_) | (with_reducible refine Ext.drewN ?_ _) | (with_reducible refine Ext.trans ?_ (Hid.out ‹Hid (Ext _ _)›)))) (by first | exact Bx.new | exact ((((((((Bx.new.set (i := 0)).set (i := 1)).set (i := 2)).set (i := 3)).set (i := 4)).set (i := 5)).set (i := 6)).set (i := 7))) (by decide)).own hso (by simp only [World.size_alloc, size_set]; omega))
          obtain ⟨A80, n80, rfl⟩ := hso.form
          have HE8 := Lib.hid ((HE7.out.trans (by repeat (first | (with_reducible exact Ext.refl _) | (with_reducible refine Ext.alloc ?_ _) | (with_reducible apply Ext.setC; focus (simp <;> omega)) | (with_reducible refine Ext.drew ?_) | (with_reducible refine Ext.drewN ?_ _) | (with_reducible refine Ext.trans ?_ (Hid.out ‹Hid (Ext _ _)›))))).trans h1)
          clear hso
          have hy8 := HP8.out.1.size
          clear h1 hy7 lv7_7 qv7_7 fv7_7 HP7 HE7
          (obtain ⟨lv8_6, qv8_6, fv8_6⟩ := Row.ext HE8.out Rc_6.out; obtain ⟨lv8_7, qv8_7, fv8_7⟩ := Row.ext HE8.out Rc_7.out)
          go_wp2_with fail
          refine (KN.out _ (HE8.out.trans (by repeat (first | (with_reducible exact Ext.refl _) | (with_reducible refine Ext.alloc ?_ _) | (with_reducible apply Ext.setC; focus (simp <;> omega)) | (with_reducible refine Ext.drew ?_) | (with_reducible refine Ext.drewN ?_ _) | (with_reducible refine Ext.trans ?_ (Hid.out ‹Hid (Ext _ _)›)))))).mono ?_
          rintro e v9 ⟨si, rfl, h1, hso⟩
          have HP9 := Lib.hid ((HP8.out.step (p := v8.heap.size) (e := 30) (cs := #[.int .i64 d1, .slice A80 d2.length n80]) h1 (by repeat (first | (with_reducible exact Ext.refl _) | (with_reducible refine Ext.alloc ?_ _) | (with_reducible apply Ext.setC; focus (simp <;> omega)) | (with_reducible refine Ext.drew ?_) | (with_reducible refine Ext.drewN ?_ _) | (with_reducible refine Ext.trans ?_ (Hid.out ‹Hid (Ext _ _)›)))) (by first | exact Bx.new | exact ((Bx.new.set (i := 0)).set (i := 1))) (by decide)).own hso (by simp only [World.size_alloc, size_set]; omega))
          obtain ⟨A90, n90, rfl⟩ := hso.form
          have HE9 := Lib.hid ((HE8.out.trans (by repeat (first | (with_reducible exact Ext.refl _) | (with_reducible refine Ext.alloc ?_ _) | (with_reducible apply Ext.setC; focus (simp <;> omega)) | (with_reducible refine Ext.drew ?_) | (with_reducible refine Ext.drewN ?_ _) | (with_reducible refine Ext.trans ?_ (Hid.out ‹Hid (Ext _ _)›))))).trans h1)
          clear hso
          have hy9 := HP9.out.1.size
          clear h1 hy8 lv8_6 lv8_7 qv8_6 qv8_7 fv8_6 fv8_7 HP8 HE8
          (obtain ⟨lv9_0, qv9_0, fv9_0⟩ := Row.ext HE9.out Rc_0.out; obtain ⟨lv9_5, qv9_5, fv9_5⟩ := Row.ext HE9.out Rc_5.out)
          go_wp2_with fail
          refine (KL.out _ (HE9.out.trans (by repeat (first | (with_reducible exact Ext.refl _) | (with_reducible refine Ext.alloc ?_ _) | (with_reducible apply Ext.setC; focus (simp <;> omega)) | (with_reducible refine Ext.drew ?_) | (with_reducible refine Ext.drewN ?_ _) | (with_reducible refine Ext.trans ?_ (Hid.out ‹Hid (Ext _ _)›)))))).mono ?_
          rintro e v10 ⟨rfl, h1⟩
          have HP10 := Lib.hid (HP9.out.step (p := v9.heap.size) (e := 30) (cs := #[.int .i64 e1, .slice A90 e2.length n90]) h1 (by repeat (first | (with_reducible exact Ext.refl _) | (with_reducible refine Ext.alloc ?_ _) | (with_reducible apply Ext.setC; focus (simp <;> omega)) | (with_reducible refine Ext.drew ?_) | (with_reducible refine Ext.drewN ?_ _) | (with_reducible refine Ext.trans ?_ (Hid.out ‹Hid (Ext _ _)›)))) (by first | exact Bx.new | exact ((Bx.new.set (i := 0)).set (i := 1))) (by decide))
          have HE10 := Lib.hid ((HE9.out.trans (by repeat (first | (with_reducible exact Ext.refl _) | (with_reducible refine Ext.alloc ?_ _) | (with_reducible apply Ext.setC; focus (simp <;> omega)) | (with_reducible refine Ext.drew ?_) | (with_reducible refine Ext.drewN ?_ _) | (with_reducible refine Ext.trans ?_ (Hid.out ‹Hid (Ext _ _)›))))).trans h1)
          have hy10 := HP10.out.1.size
          clear h1 hy9 lv9_0 lv9_5 qv9_0 qv9_5 fv9_0 fv9_5 HP9 HE9
          (obtain ⟨lv10_2, qv10_2, fv10_2⟩ := Row.ext HE10.out Rc_2.out; obtain ⟨lv10_6, qv10_6, fv10_6⟩ := Row.ext HE10.out Rc_6.out)
          go_wp2_with fail
          refine (KG.out _ HE10.out).mono ?_
          rintro e v11 ⟨rfl, h1⟩
          have HP11 := Lib.hid (HP10.out.ext h1)
          have HE11 := Lib.hid (HE10.out.trans h1)
          have hy11 := HP11.out.1.size
          clear h1 hy10 lv10_2 lv10_6 qv10_2 qv10_6 fv10_2 fv10_6 HP10 HE10
          (obtain ⟨lv11_3, qv11_3, fv11_3⟩ := Row.ext HE11.out Rc_3.out; obtain ⟨lv11_7, qv11_7, fv11_7⟩ := Row.ext HE11.out Rc_7.out)
          go_wp2_with fail
          refine (KD.out _ HE11.out).mono ?_
          rintro e v12 ⟨rfl, h1⟩
          have HP12 := Lib.hid (HP11.out.ext h1)
          clear h1 hy11 HP11 HE11
          obtain ⟨lba12, qba12, fba12⟩ := HP12.out.box (.tail _ (.tail _ (.tail _ (.tail _ (.tail _ (.tail _ (.head _)))))))
          go_wp2_with fail
          refine (pool_spoilLedger HP12.out _ _ _ (HP12.out.rows (by simp)) (HP12.out.rows (by simp)) (HP12.out.rows (by simp))).mono ?_
          rintro e v13 ⟨rfl, hp⟩
          have HP13 := Lib.hid hp
          clear hp
          obtain ⟨lbb13, qbb13, fbb13⟩ := HP13.out.box (.tail _ (.tail _ (.tail _ (.tail _ (.tail _ (.head _))))))
          go_wp2_with fail
          refine (pool_spoilLedger HP13.out _ _ _ (HP13.out.rows (by simp)) (HP13.out.rows (by simp)) (HP13.out.rows (by simp))).mono ?_
          rintro e v14 ⟨rfl, hp⟩
          have HP14 := Lib.hid hp
          clear hp
          obtain ⟨lbc14, qbc14, fbc14⟩ := HP14.out.box (.tail _ (.tail _ (.tail _ (.tail _ (.head _)))))
          go_wp2_with fail
          refine (pool_spoilLedger HP14.out _ _ _ (HP14.out.rows (by simp)) (HP14.out.rows (by simp)) (HP14.out.rows (by simp))).mono ?_
          rintro e v15 ⟨rfl, hp⟩
          have HP15 := Lib.hid hp
          clear hp
          go_wp2_with fail
          refine (pool_spoilTaps HP15.out _ (HP15.out.rows (by simp))).mono ?_
          rintro e v16 ⟨rfl, hp⟩
          have HP16 := Lib.hid hp
          clear hp
          go_wp2_with fail
          refine (pool_spoilTaps HP16.out _ (HP16.out.rows (by simp))).mono ?_
          rintro e v17 ⟨rfl, hp⟩
          have HP17 := Lib.hid hp
          clear hp
          go_wp2_with fail
          refine (pool_spoilTaps HP17.out _ (HP17.out.rows (by simp))).mono ?_
          rintro e v18 ⟨rfl, hp⟩
          have HP18 := Lib.hid hp
          clear hp
          obtain ⟨lbx18, qbx18, fbx18⟩ := HP18.out.box (.tail _ (.tail _ (.tail _ (.head _))))
          obtain ⟨lby18, qby18, fby18⟩ := HP18.out.box (.tail _ (.tail _ (.head _)))
          obtain ⟨lbm18, qbm18, fbm18⟩ := HP18.out.box (.tail _ (.head _))
          have hy18 := HP18.out.1.size
          go_wp2_with fail
          have hp18 := (HP18.out.keep (bs2 := [(v9.heap.size, 30, #[.int .i64 e1, .slice A90 e2.length n90])]) (fun x hx => by rcases List.mem_singleton.1 hx with rfl; exact .head _)).ext ((Ext.refl _).alloc (.cells #[.int .i64 a1, .int .i64 a2, .int .i64 a3, .slice A60 a4.length n60, .int .i64 a5, .slice A61 a6.length n61, .int .i64 a7, .int .i64 a8, .int .i64 c1, .int .i64 c2, .int .i64 c3, .slice none 0 0, .int .i64 c5, .slice A71 c6.length n71, .int .i64 c7, .int .i64 c8] 34))
          refine (pool_spoilStation hp18 (fun x hx => by rcases List.mem_singleton.1 hx with rfl; show 30 ∉ spT; decide) _ _ _ _ _ _ _ [⟨a1, a2, a3, .slice A60 a4.length n60, a5, .slice A61 a6.length n61, a7, a8⟩, ⟨c1, c2, c3, .slice none 0 0, c5, .slice A71 c6.length n71, c7, c8⟩] RowS.nil RowS.nil RowS.nil (hp18.rows (by simp)) RowS.nil (own_two hy18 _ _ rfl) (by rintro x hx; rcases List.mem_cons.1 hx with rfl | hx; exact ⟨hp18.rows (by simp), hp18.rows (by simp)⟩; rcases List.mem_singleton.1 hx with rfl; exact ⟨RowS.nil, hp18.rows (by simp)⟩)).mono ?_
          rintro e v19 ⟨rfl, hp⟩
          have HP19 := Lib.hid hp
          clear hp hp18
          obtain ⟨lbn19, qbn19, fbn19⟩ := HP19.out.box (.head _)
          go_wp2_with fail
          refine (pool_spoilStation HP19.out (fun x hx => by rcases List.mem_singleton.1 hx with rfl; show 30 ∉ spT; decide) _ _ _ _ _ _ _ [] RowS.nil RowS.nil RowS.nil (HP19.out.rows (by simp)) RowS.nil OwnL.nil (by intro x hx; cases hx)).mono ?_
          rintro e v20 ⟨rfl, hp⟩
          have hrel := HP19
          have hfin := HEr.out.trans hp.1
          clear hp
          go_wp2_with fail
          go_roundg (2 - (k + 1))
          case measure => omega
          case rel => exact ⟨k + 1, by omega, by omega, by go_num, hfin⟩
          -- END
        · have hge : ¬ (k : Int) < 2 := by omega
          have hfin := HWC.out.trans HEr.out
          go_wp2_with fail
          go_ret
          exact ⟨rfl, hfin⟩
end Go.Proofs.YtbboonepfmkgnaaGreat

namespace Go.Proofs.YtbboonepfmkgnaaGreat
set_option linter.unusedSimpArgs false
set_option linter.unusedVariables false
open Go.ChangeShapes Go.WideShapes Go.ChangeAt Go.RowKit
open Go.ChangeMaps (open_string shut_string)

set_option maxRecDepth 100000 in
theorem restLedgers_lifted (os : Os) (started : os.Started) (H : Type) (enc : TypeId × Value → H) :
    ReturnsInHanded {} Tryz.checked os 3 .any (Rows.restLedgersSpec.pre6 enc Tryz.prog Tryz.f3 Rows.restLedgersRow.domain false) (Rows.restLedgersSpec.post enc Tryz.prog Tryz.f3 false true false false) := by
  refine returnsInHanded_of_change_sized (C := Tryz.checked) own started (by kernel_rfl) Tryz.func3
    (ChangeSpec.witness6 (enc := enc) (C := Tryz.checked) false ⟨#[], #[.agg #[.slice none 0 0, .slice none 0 0, .slice none 0 0], .agg #[.int .i64 0, .int .i64 0, .int .i64 0, .int .i64 0, .int .i64 0], .agg #[.int .i64 0, .int .i64 0, .int .i64 0, .slice none 0 0, .int .i64 0, .slice none 0 0, .int .i64 0, .int .i64 0], .agg #[.int .i64 0, .slice none 0 0], .agg #[.int .i64 0, .int .i64 0, .int .i64 0, .int .i64 0, .int .i64 0, .int .i64 0]], []⟩ 8 (by kernel_rfl) (by kernel_rfl) (by kernel_rfl) (by kernel_rfl)) ?_
  intro W base args ds gs before hval0 hW hcnd hsized _
  have hval : ∀ (j : Nat) t v, Tryz.f3.params[j]? = some t → args[j]? = some v → Value.okWide Tryz.prog W .any base t v := hval0
  have hW' := hW
  obtain ⟨p, q, hA0, hV, rfl, hfz, hnd⟩ := hW
  have hA : DataW.TrodAll enc Tryz.prog W 0 (fun _ => true) true Tryz.f3.params.toList args.toList ds p := hA0
  rw [Tryz.params3] at hA hval
  obtain ⟨v0, vs0, d0, ds0, p0, q0, hargs, rfl, rfl, h0, r0⟩ := trodAll_cons hA
  obtain ⟨v1, vs1, d1, ds1, p1, q1, rfl, rfl, rfl, h1, r1⟩ := trodAll_cons r0
  obtain ⟨v2, vs2, d2, ds2, p2, q2, rfl, rfl, rfl, h2, r2⟩ := trodAll_cons r1
  obtain ⟨v3, vs3, d3, ds3, p3, q3, rfl, rfl, rfl, h3, r3⟩ := trodAll_cons r2
  obtain ⟨v4, vs4, d4, ds4, p4, q4, rfl, rfl, rfl, h4, r4⟩ := trodAll_cons r3
  obtain ⟨rfl, rfl, rfl⟩ := trodAll_nil r4
  obtain rfl : args = #[v0, v1, v2, v3, v4] := by cases args; simp_all
  obtain ⟨rfl, rfl⟩ := trodVars_none hV
  have k0 := h0
  have lt0 : ∀ x ∈ p0, x.block < W.heap.size := by obtain ⟨m, hm⟩ := k0; exact DataW.trod_lt m _ _ _ hm
  have k1 := h1
  have lt1 : ∀ x ∈ p1, x.block < W.heap.size := by obtain ⟨m, hm⟩ := k1; exact DataW.trod_lt m _ _ _ hm
  have k2 := h2
  have lt2 : ∀ x ∈ p2, x.block < W.heap.size := by obtain ⟨m, hm⟩ := k2; exact DataW.trod_lt m _ _ _ hm
  have k3 := h3
  have lt3 : ∀ x ∈ p3, x.block < W.heap.size := by obtain ⟨m, hm⟩ := k3; exact DataW.trod_lt m _ _ _ hm
  have k4 := h4
  have lt4 : ∀ x ∈ p4, x.block < W.heap.size := by obtain ⟨m, hm⟩ := k4; exact DataW.trod_lt m _ _ _ hm
  have z0 : ∀ m ∈ d0.weights Tryz.prog 26, m ≤ reachBytes := fun m hm => by
    have := List.all_eq_true.1 hsized m (DataW.weights_mem_each (j := 0) (by rw [Tryz.params3]; rfl) rfl m hm)
    simpa using this
  obtain ⟨l0, sk0, sp0, sv0, rfl, e0, f0, i0, y0⟩ := open_ldz (hval 0 26 v0 rfl rfl) h0 z0
  obtain ⟨t1, rfl⟩ := open_tp (hval 1 28 v1 rfl rfl) h1
  have z2 : ∀ m ∈ d2.weights Tryz.prog 34, m ≤ reachBytes := fun m hm => by
    have := List.all_eq_true.1 hsized m (DataW.weights_mem_each (j := 2) (by rw [Tryz.params3]; rfl) rfl m hm)
    simpa using this
  obtain ⟨g2, sa2, si2, rfl, e2, f2, y2, x2⟩ := open_gtz (hval 2 34 v2 rfl rfl) h2 z2
  have z3 : ∀ m ∈ d3.weights Tryz.prog 30, m ≤ reachBytes := fun m hm => by
    have := List.all_eq_true.1 hsized m (DataW.weights_mem_each (j := 3) (by rw [Tryz.params3]; rfl) rfl m hm)
    simpa using this
  obtain ⟨t3, s3, rfl, e3, y3⟩ := open_dnz (hval 3 30 v3 rfl rfl) h3 z3
  obtain ⟨t4, rfl⟩ := open_tk (hval 4 36 v4 rfl rfl) h4
  clear hA0 hval0
  refine (law_RestLedgers l0 t1 g2 t3 t4 sk0 sp0 sv0 sa2 si2 s3 W e0 f0 i0 e2 f2 e3 y0 y2 x2 y3).mono fun e W' ⟨he, bel⟩ => ?_
  subst he
  exact ⟨_, rfl, _, _, _, [], _, [], hW', trodAll_mk1 (shut_bool Tryz.underlying4 _), (trodAll_cons_mk (Below.trod laidOut (by kernel_rfl) (of_decide_eq_true (by kernel_rfl)) k0 bel lt0) (trodAll_cons_mk (Below.trod laidOut (by kernel_rfl) (of_decide_eq_true (by kernel_rfl)) k1 bel lt1) (trodAll_cons_mk (Below.trod laidOut (by kernel_rfl) (of_decide_eq_true (by kernel_rfl)) k2 bel lt2) (trodAll_cons_mk (Below.trod laidOut (by kernel_rfl) (of_decide_eq_true (by kernel_rfl)) k3 bel lt3) (trodAll_cons_mk (Below.trod laidOut (by kernel_rfl) (of_decide_eq_true (by kernel_rfl)) k4 bel lt4) trodAll_mk0))))), rfl, bel.frame _, fun h => by cases h⟩

theorem restLedgers_holds : Rows.RestLedgersSaid :=
  OpenClaim.holds_of_wide 3 Tryz.f3 rfl rfl rfl rfl rfl rfl rfl ⟨rfl, rfl, rfl, rfl, rfl⟩ rfl rfl rfl rfl rfl (by kernel_rfl) Tryz.func3 (by kernel_rfl)
    (of_decide_eq_true (by kernel_rfl)) (by unfold Func.isWrapper; first | (rw [if_pos (by decide +kernel)]; kernel_rfl) | (rw [if_neg (by decide +kernel)]; exact ⟨rfl, rfl⟩))
    (fun os started H enc _ => restLedgers_lifted os started H enc)

end Go.Proofs.YtbboonepfmkgnaaGreat
