import Derived.Test.YtglifpoiildpfaaTickG
import Derived.Deep.RegionHeld3
namespace Go.Proofs.Ytglifpoiildpfaa
set_option linter.unusedSimpArgs false
set_option linter.unusedVariables false
open Go Go.RowKit Lb

def encodeTk (t : Tk) : List UInt8 := if ckTicket t ≠ 0 then [] else (tkBytes t).map fun n => UInt8.ofNat n.toNat

theorem small_of_ok {t : Tk} (h : ckTicket t = 0) : small t := by
  unfold ckTicket at h
  unfold small
  repeat' split at h
  all_goals simp [within] at *
  all_goals omega

theorem strOfNums_bs (l : List Int) : strOfNums l = bs (l.map fun n => UInt8.ofNat n.toNat) := rfl

set_option maxHeartbeats 1000000 in
theorem ticket_Encode (t : Tk) (w : World) :
    Calls Try.prog 13 #[.agg (tkc t)] w fun e w' =>
      e = .returned (.tuple #[.string (bs (encodeTk t)), .int .i64 (ckTicket t)]) ∧ Ext w w' := by
  have hk := ticket_Check t
  have hby := fun w h => ticket_Bytes t w h
  unfold encodeTk
  by_cases h0 : ckTicket t = 0
  · have hs := small_of_ok h0
    rw [if_neg (by simpa using h0), ← strOfNums_bs]
    rw [h0] at hk ⊢
    generalize tkBytes t = bl at hby
    obtain ⟨a, b, c, d, x, f⟩ := t
    unfold tkc at hk hby
    unfold tkc
    have HK := Lib.hid hk
    have HB := Lib.hid (fun w => hby w hs)
    clear hk h0 hby hs
    go_enter Try.func13, Try.ntmps13
    go_wp2_with fail
    (refine (HK.out _).mono ?_; rintro e w1 ⟨rfl, h1⟩; have H1 := Lib.hid h1; have hz1 := h1.size; clear h1; (try simp only [World.size_alloc, size_set, World.heap_drewN, size_drew] at hz1); apply Row.use (w := w1) (g := w.heap.size); (focus (repeat (first | (with_reducible exact Hid.out ‹Hid (Row _ _ _)›) | (with_reducible exact Row.newAt rfl) | (with_reducible apply Row.newAt; (simp; done)) | (with_reducible apply Row.set_) | (with_reducible apply Row.far; focus (simp <;> omega)) | (with_reducible apply Row.alloc) | (with_reducible apply Row.drew) | (with_reducible apply Row.drewN) | (with_reducible apply Row.ext (Hid.out ‹Hid (Ext _ _)›))))); intro q1_0 f1_0 l1_0 R1_0; (try simp only [List.setIfInBounds_toArray, List.set_cons_zero, List.set_cons_succ] at q1_0 R1_0))
    go_wp2_with fail
    refine (HB.out _).mono ?_
    rintro e w2 ⟨v, rfl, h2, ho⟩
    have H2 := Lib.hid h2
    clear h2
    have hcv := conv_own ho
    clear ho
    go_wp2_with fail
    go_ret2
    refine ⟨rfl, ?_⟩
    repeat (first | (with_reducible exact Ext.refl _) | (with_reducible refine Ext.alloc ?_ _) | (with_reducible apply Ext.setC; focus (simp <;> omega)) | (with_reducible refine Ext.drew ?_) | (with_reducible refine Ext.drewN ?_ _) | (with_reducible refine Ext.trans ?_ (Hid.out ‹Hid (Ext _ _)›)))
  · rw [if_pos h0]
    have hb : (ckTicket t != 0) = true := by simpa using h0
    generalize ckTicket t = r at hk hb
    clear h0 hby
    obtain ⟨a, b, c, d, x, f⟩ := t
    unfold tkc at hk
    unfold tkc
    have HK := Lib.hid hk
    clear hk
    go_enter Try.func13, Try.ntmps13
    go_wp2_with fail
    (refine (HK.out _).mono ?_; rintro e w1 ⟨rfl, h1⟩; have H1 := Lib.hid h1; have hz1 := h1.size; clear h1; (try simp only [World.size_alloc, size_set, World.heap_drewN, size_drew] at hz1); apply Row.use (w := w1) (g := w.heap.size); (focus (repeat (first | (with_reducible exact Hid.out ‹Hid (Row _ _ _)›) | (with_reducible exact Row.newAt rfl) | (with_reducible apply Row.newAt; (simp; done)) | (with_reducible apply Row.set_) | (with_reducible apply Row.far; focus (simp <;> omega)) | (with_reducible apply Row.alloc) | (with_reducible apply Row.drew) | (with_reducible apply Row.drewN) | (with_reducible apply Row.ext (Hid.out ‹Hid (Ext _ _)›))))); intro q1_0 f1_0 l1_0 R1_0; (try simp only [List.setIfInBounds_toArray, List.set_cons_zero, List.set_cons_succ] at q1_0 R1_0))
    go_wp2_with fail
    go_ret2
    refine ⟨rfl, ?_⟩
    repeat (first | (with_reducible exact Ext.refl _) | (with_reducible refine Ext.alloc ?_ _) | (with_reducible apply Ext.setC; focus (simp <;> omega)) | (with_reducible refine Ext.drew ?_) | (with_reducible refine Ext.drewN ?_ _) | (with_reducible refine Ext.trans ?_ (Hid.out ‹Hid (Ext _ _)›)))

def single (id : Int) : Tk := ⟨id, 1, 10, 500, 15, 0⟩

theorem law_single (id : Int) (w : World) :
    Calls Try.prog 38 #[.int .i64 id] w fun e w' => e = .returned (.agg (tkc (single id))) ∧ Ext w w' := by
  go_enter Try.func38, Try.ntmps38
  go_wp2_with fail
  refine bodyPost_ret (v := .agg (tkc (single id))) (by simp [results, Try.results38, go_sem, tkc, single]) rfl ⟨rfl, ?_⟩
  repeat (first | (with_reducible exact Ext.refl _) | (with_reducible refine Ext.alloc ?_ _) | (with_reducible apply Ext.setC; focus (simp <;> omega)) | (with_reducible refine Ext.drew ?_) | (with_reducible refine Ext.drewN ?_ _) | (with_reducible refine Ext.trans ?_ (Hid.out ‹Hid (Ext _ _)›)))
end Go.Proofs.Ytglifpoiildpfaa
