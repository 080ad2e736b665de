/- Gates' laws: the plain side. -/
import Derived.Test.YthollackhkiofaaGt
namespace Lb
set_option linter.unusedVariables false
set_option maxRecDepth 100000
set_option linter.unusedSimpArgs false

theorem tapAll_err {g : Gt} {t : Tk} {time : Int} (h : (tapAll g t time).2.2 ≠ 0) : tapAll g t time = (gt0, tp0, (tapAll g t time).2.2) := by
  unfold tapAll tapG at h ⊢
  by_cases h1 : ckGate g = 0
  · by_cases h2 : ckTicket t = 0
    · by_cases h3 : tapE g t time = 0
      · simp [h1, h2, h3] at h
      · simp [h1, h2, h3]
    · simp [h1, h2]
  · simp [h1]
theorem tapAll_ok {g : Gt} {t : Tk} {time : Int} (h : (tapAll g t time).2.2 = 0) : ckGate g = 0 ∧ ckTicket t = 0 ∧ tapE g t time = 0 ∧ tapAll g t time = (tapped g t time, tapOf g t time, 0) := by
  unfold tapAll tapG at h ⊢
  by_cases h1 : ckGate g = 0
  · by_cases h2 : ckTicket t = 0
    · by_cases h3 : tapE g t time = 0
      · simp [h1, h2, h3]
      · simp [h1, h2, h3] at h
    · simp [h1, h2] at h
  · simp [h1] at h
theorem syncAll_err {g : Gt} {d : Dn} {time : Int} (h : (syncAll g d time).2.2 ≠ 0) : syncAll g d time = (gt0, [], (syncAll g d time).2.2) := by
  unfold syncAll at h ⊢
  by_cases h1 : syncE g d time = 0
  · simp [h1] at h
  · simp [h1]
theorem syncAll_ok {g : Gt} {d : Dn} {time : Int} (h : (syncAll g d time).2.2 = 0) : ckGate g = 0 ∧ ckDn d = 0 ∧ within time 0 9999 = true ∧ syncAll g d time = (synced g d time, g.alone, 0) := by
  unfold syncAll syncE at h ⊢
  by_cases h1 : ckGate g = 0
  · by_cases h2 : ckDn d = 0
    · cases h3 : within time 0 9999
      · simp [h1, h2, h3] at h
      · simp [h1, h2, h3]
    · simp [h1, h2] at h
  · simp [h1] at h
theorem pickD_twice (a b : Dn) : pickD (pickD a b) b = pickD a b := by
  unfold pickD
  by_cases h : a.version < b.version
  · simp [h]
  · simp [h]
theorem pickD_ge (a b : Dn) : a.version ≤ (pickD a b).version ∧ b.version ≤ (pickD a b).version := by
  unfold pickD
  by_cases h : a.version < b.version
  · simp only [h, if_true]; omega
  · simp only [h, if_false]; omega
/-- told again -/
theorem sync_again {g : Gt} {d : Dn} {time : Int} (h : (syncAll g d time).2.2 = 0) : syncAll (synced g d time) d time = (synced g d time, [], 0) ∧ ckGate (synced g d time) = 0 := by
  obtain ⟨h1, h2, h3, h4⟩ := syncAll_ok h
  have hr := synced_right h1 h2 h3
  refine ⟨?_, hr⟩
  have hsy : synced (synced g d time) d time = synced g d time := by
    show Gt.mk g.id g.zone g.seq [] (pickD (pickD g.denied d) d) 9 (time + 100) = Gt.mk g.id g.zone g.seq [] (pickD g.denied d) 9 (time + 100)
    rw [pickD_twice]
  have ha : (synced g d time).alone = [] := rfl
  unfold syncAll syncE
  rw [hr, h2, h3, hsy, ha]
  simp
/-- a day may come again -/
theorem tap_again {g : Gt} {t : Tk} {time : Int} (h : (tapAll g t time).2.2 = 0) :
    (tapAll (tapped g t time) t time).2.2 = if (tapped g t time).left = 0 ∨ t.kind ≠ 2 then 10 else if (tapped g t time).alone.length = 12 ∨ (tapped g t time).seq = 99 then 2 else 0 := by
  obtain ⟨h1, h2, h3, h4⟩ := tapAll_ok h
  have hr := (tapped_right h1 h2 h3).1
  have hE : ∀ G : Gt, tapE G t time = if within time 0 9999 = false then 3 else if Lb.early G.alone time = true then 4 else if G.denied.ids.contains t.id = true then 11 else if G.untl < time then 8 else if place t time G.zone ≠ 0 then place t time G.zone else if G.left = 0 ∨ t.kind ≠ 2 ∧ twiceG G t.id = true then 10 else if G.alone.length = 12 ∨ G.seq = 99 then 2 else 0 := fun _ => rfl
  have hg := h3
  rw [hE] at hg
  have k1 : within time 0 9999 = true := by
    cases hz : within time 0 9999
    · rw [hz] at hg; simp at hg
    · rfl
  rw [k1] at hg
  simp only [Bool.true_eq_false, if_false] at hg
  have k2 : ¬ Lb.early g.alone time = true := fun hh => by rw [if_pos hh] at hg; simp at hg
  rw [if_neg k2] at hg
  have k3 : ¬ g.denied.ids.contains t.id = true := fun hh => by rw [if_pos hh] at hg; simp at hg
  rw [if_neg k3] at hg
  have k4 : ¬ g.untl < time := fun hh => by rw [if_pos hh] at hg; simp at hg
  rw [if_neg k4] at hg
  have k5 : ¬ place t time g.zone ≠ 0 := fun hh => by rw [if_pos hh] at hg; exact hh hg
  have e2 : Lb.early (tapped g t time).alone time = false := by
    show Lb.early (g.alone ++ [tapOf g t time]) time = false
    unfold Lb.early
    rw [List.getLast?_append]
    simp [tapOf]
  have e6 : twiceG (tapped g t time) t.id = true := by
    show (g.alone ++ [tapOf g t time]).any (fun p => p.ticket == t.id) = true
    simp [tapOf]
  have hx : (tapAll (tapped g t time) t time).2.2 = tapE (tapped g t time) t time := by
    unfold tapAll tapG
    by_cases hz : tapE (tapped g t time) t time = 0 <;> simp [hr, h2, hz]
  rw [hx, hE, k1, e2, if_neg (by simp), if_neg (by simp), e6]
  rw [show (tapped g t time).denied = g.denied from rfl, if_neg k3, show (tapped g t time).untl = g.untl from rfl, if_neg k4, show (tapped g t time).zone = g.zone from rfl, if_neg k5]
  simp
end Lb
