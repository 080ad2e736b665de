/- Plain laws of judgeAll. -/
import Derived.Test.YtglifpoiildpfaaRuleM
namespace Go.Proofs.Ytglifpoiildpfaa
set_option linter.unusedSimpArgs false
set_option linter.unusedVariables false
open Go Lb

theorem judge_class (t : Tk) (l : Option Int) (rides : Int) (p : Tp) :
    (judge t l rides p).2 ≠ 0 → (judge t l rides p).1 = 3 := by
  unfold judge
  dsimp only
  repeat' split
  all_goals simp
theorem judgeAll_bad (t : Tk) (was : List Tp) (rides : Int) (p : Tp) (h : (judgeAll t was rides p).2 ≠ 0) :
    (judgeAll t was rides p).1 = 0 ∨ (judgeAll t was rides p).1 = 3 := by
  unfold judgeAll at h ⊢
  split
  · exact .inl rfl
  · rename_i h0; rw [if_neg h0] at h; exact .inr (judge_class _ _ _ _ h)
theorem judgeAll_good (t : Tk) (was : List Tp) (rides : Int) (p : Tp) (h : (judgeAll t was rides p).2 = 0) :
    ckJudge t was rides p = 0 ∧ judgeAll t was rides p = judge t (lastTime was) rides p := by
  unfold judgeAll at h ⊢
  split
  · rename_i h0; rw [if_pos h0] at h; exact absurd h h0
  · rename_i h0; exact ⟨by simpa using h0, rfl⟩
theorem ckJ_rides {t : Tk} {was : List Tp} {rides : Int} {p : Tp} (h : ckJudge t was rides p = 0) : 0 ≤ rides ∧ rides ≤ 60 := by
  unfold ckJudge at h
  by_cases a1 : ckTicket t = 0
  · by_cases a2 : ckTap p = 0
    · cases a3 : within rides 0 60
      · simp [a1, a2, a3] at h
      · simp [within] at a3; omega
    · simp [a1, a2] at h
  · simp [a1] at h
theorem ckJ_less {t : Tk} {was : List Tp} {rides : Int} {p : Tp} (h : ckJudge t was rides p = 0) (h0 : rides ≠ 0) : ckJudge t was (rides - 1) p = 0 := by
  have hr := ckJ_rides h
  have h1 : within rides 0 60 = true := by simp [within]; omega
  have h2 : within (rides - 1) 0 60 = true := by simp [within]; omega
  unfold ckJudge at h ⊢
  rw [h1] at h; rw [h2]; exact h
theorem judge_good {t : Tk} {l : Option Int} {rides : Int} {p : Tp} (h : (judge t l rides p).2 = 0) :
    (t.frm ≤ p.time ∧ p.time ≤ t.til) ∧ ((judge t l rides p).1 = 1 ∧ ¬ (t.kind = 1 ∧ 1 ≤ rides) ∧ ¬ (t.kind = 3 ∧ t.rides ≤ rides) ∨ (judge t l rides p).1 = 2 ∧ l ≠ none) ∧ judge t l (rides - 1) p = judge t l rides p := by
  unfold judge at h ⊢
  dsimp only at h ⊢
  by_cases hp : place t p.time p.zone = 0
  · have hpl : t.frm ≤ p.time ∧ p.time ≤ t.til := by
      unfold place at hp
      split at hp
      · simp at hp
      · split at hp
        · simp at hp
        · omega
    simp only [hp, ne_eq, not_true_eq_false, if_false] at h ⊢
    refine ⟨hpl, ?_⟩
    cases hg : goesOn l p.time
    · simp only [hg, Bool.false_eq_true, if_false] at h ⊢
      split at h
      · simp at h
      · rename_i hn
        have hn2 : ¬ (t.kind = 1 ∧ 1 ≤ rides - 1 ∨ t.kind = 3 ∧ t.rides ≤ rides - 1) := by omega
        rw [if_neg hn, if_neg hn2]
        refine ⟨.inl ⟨rfl, by omega, by omega⟩, rfl⟩
    · simp only [hg, if_true]
      refine ⟨.inr ⟨trivial, ?_⟩, trivial⟩
      rintro rfl
      simp [goesOn] at hg
  · simp only [ne_eq, hp, not_false_eq_true, if_true] at h
theorem last_none {was : List Tp} (h : lastTime was ≠ none) : 0 < was.length := by
  rcases was with _ | ⟨a, l⟩
  · exact absurd rfl h
  · simp
end Go.Proofs.Ytglifpoiildpfaa
